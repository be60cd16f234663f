/- What functions of the program compute, each function once: steps over the model, and the plain law of it. -/
import Derived.Test.YtkknmpkcfpdllaaGreatDoorTWaitRel
import Derived.Test.YtkknmpkcfpdllaaGreatDoorTWirePure
import Derived.Test.YtkknmpkcfpdllaaGreatDoorTTreeLaid
import Derived.Test.YtkknmpkcfpdllaaGreatDoorTFacts
namespace Go.Proofs.YtkknmpkcfpdllaaGreatDoor.B
open Go Go.Proofs
set_option linter.unusedVariables false
set_option linter.unusedSimpArgs false
theorem strOf_foldl: ∀(bs:List Nat) (acc:ByteArray),((bs.map (fun x=>((x:Nat):Int))).foldl (fun r n=>r.push (UInt8.ofNat n.toNat)) acc)=⟨acc.data++(bs.map UInt8.ofNat).toArray⟩
 | [],acc=>by simp
 |x::r,acc=>by
  rw [List.map_cons,List.foldl_cons,strOf_foldl r];simp [ByteArray.push]
theorem strOf_is (bs:List Nat):strOf bs=⟨(bs.map UInt8.ofNat).toArray⟩:=by rw [strOf,strOf_foldl];simp
theorem strOf_inj {a b:List Nat} (ha: ∀x∈a,x<256) (hb: ∀x∈b,x<256) (h:strOf a=strOf b):a=b:=by
 rw [strOf_is,strOf_is] at h;injection h with h
 have h:a.map UInt8.ofNat=b.map UInt8.ofNat:=by simpa using h
 have inv: ∀l:List Nat,(∀x∈l,x<256)->(l.map UInt8.ofNat).map UInt8.toNat=l:=fun l hl=>by
  rw [List.map_map]
  conv=>rhs;rw [<-List.map_id l]
  refine List.map_congr_left fun x hx=> ?_;have:=hl x hx;simp only [Function.comp_apply,UInt8.toNat_ofNat',id_eq];omega
 rw [<-inv a ha,<-inv b hb,h]
structure Opn where
 n:Nat
 old:List Ent
 bo:Nat
structure Db where
 epoch:Int
 begun:Int
 seq:Int
 l:List (Int×Opn)
def OldR (D:Sto):List (ByteArray×Value)->List Ent->Prop
 | [], []=>True
 |(s,v)::m,e::l=>s=strOf e.key/\(∃vs,v= .agg vs.toArray/\UeR D vs e)/\OldR D m l
 |_,_=>False
theorem OldR.mono {D D':Sto}: ∀{m:List (ByteArray×Value)} {l:List Ent},OldR D m l->Le D D'->OldR D' m l
 | [], [],_,_=>trivial
 |(s,v)::m,e::l,⟨h1,⟨vs,h2,h3⟩,h4⟩,hD=>⟨h1,⟨vs,h2,UeR.keeps D D' vs e hD h3⟩,h4.mono hD⟩
 | [],_::_,h,_=>h.elim
 |_::_, [],h,_=>h.elim
def lookO (l:List Ent) (key:Bs):Option Ent:=l.find? fun e=>decide (e.key=key)
def Byt (bs:Bs):Prop:= ∀x∈bs,x<256
theorem RB.byt {D:Sto} {v:Value} {bs:Bs} (h:RB D v bs):Byt bs:=by obtain ⟨A,c,_,_,h3,_⟩:=h;exact h3
theorem UeR.byt {D:Sto} {vs:List Value} {e:Ent} (h:UeR D vs e):Byt e.key:=by obtain ⟨k,v,_,h1,_⟩:=h;exact h1.byt
theorem OldR.look {D:Sto} {key:Bs} (hk:Byt key): ∀{m:List (ByteArray×Value)} {l:List Ent},OldR D m l->
    (match lookO l key with
     |none=>getS m (strOf key)=none
     |some e=>e.key=key/\e∈l/\ ∃vs,getS m (strOf key)=some (.agg vs.toArray)/\UeR D vs e)
  | [], [],_=>rfl
  |(s,v)::m,e::l,⟨h1,⟨vs,h2,h3⟩,h4⟩=>by
    have ih:=OldR.look hk h4;unfold lookO at ih ⊢;rw [List.find?_cons];by_cases he:e.key=key
    ·subst h1;subst h2;rw [decide_eq_true he];simp only [getS];rw [if_pos (by rw [he])];exact ⟨he,by simp,vs,rfl,h3⟩
    rw [decide_eq_false he];simp only [getS];rw [if_neg (by rw [h1];intro q;exact he (strOf_inj h3.byt hk q))];cases hf:List.find? (fun e=>decide (e.key=key)) l with
    |none=>rw [hf] at ih;exact ih
    |some x=>rw [hf] at ih;obtain ⟨a,b,c⟩:=ih;exact ⟨a,by simp [b],c⟩
  | [],_::_,h=>h.elim
  |_::_, [],h=>h.elim
def OpS (D:Sto) (o:Opn) (s:Seg):Prop:= ∃bm es clk m,s= [(o.bo, .cells #[.int .i64 (o.n:Nat), .map (some bm)] 179 (0,0)),(bm, .map es clk)]/\StrMap es clk m/\OldR D m o.old
def OpsS (D:Sto):List (Int×Opn)->List Seg->Prop
 | [], []=>True
 |p::l,s::ss=>OpS D p.2 s/\OpsS D l ss
 |_,_=>False
theorem OpS.mono {D D':Sto} {o:Opn} {s:Seg} (h:OpS D o s) (hD:Le D D'):OpS D' o s:=by obtain ⟨bm,es,clk,m,h1,h2,h3⟩:=h;exact ⟨bm,es,clk,m,h1,h2,h3.mono hD⟩
theorem OpsS.mono {D D':Sto}: ∀{l:List (Int×Opn)} {ss:List Seg},OpsS D l ss->Le D D'->OpsS D' l ss
 | [], [],_,_=>trivial
 |p::l,s::ss,⟨h1,h2⟩,hD=>⟨h1.mono hD,h2.mono hD⟩
 | [],_::_,h,_=>h.elim
 |_::_, [],h,_=>h.elim
def ptrOf (p:Int×Opn):Int×Value:=(p.1, .pointer (some ⟨p.2.bo,0,none⟩))
def DbS (D:Sto) (vd vp:Value) (d:Db) (s:Seg):Prop:= ∃bd bl es clk os,vd= .pointer (some ⟨bd,0,none⟩)/\
 s=(bd, .cells #[.int .i64 d.epoch,vp, .int .i64 d.begun, .map (some bl), .int .i64 d.seq] 175 (0,0))::(bl, .map es clk)::os.flatten/\IntMap es clk (d.l.map ptrOf)/\OpsS D d.l os
theorem DbS.mono {D D':Sto} {vd vp:Value} {d:Db} {s:Seg} (h:DbS D vd vp d s) (hD:Le D D'):DbS D' vd vp d s:=by obtain ⟨bd,bl,es,clk,os,h1,h2,h3,h4⟩:=h;exact ⟨bd,bl,es,clk,os,h1,h2,h3,h4.mono hD⟩
theorem DbS.ptr {D:Sto} {vd vp:Value} {d:Db} {s:Seg} (h:DbS D vd vp d s): ∃bd,vd= .pointer (some ⟨bd,0,none⟩):=by obtain ⟨bd,_,_,_,_,h1,_⟩:=h;exact ⟨bd,h1⟩
set_option maxRecDepth 20000
set_option maxHeartbeats 8000000
theorem putM_new {k:Int} {v:Value}: ∀{m:List (Int×Value)},k ∉ m.map (·.1)->putM m k v=m++ [(k,v)]
 | [],_=>rfl
 |(q,x)::r,h=>by
  simp only [List.map_cons,List.mem_cons,not_or] at h;simp only [putM];rw [if_neg (fun e=>h.1 e.symm),putM_new h.2];rfl
theorem OpsS.add {D:Sto} {p:Int×Opn} {s:Seg} (h:OpS D p.2 s): ∀{l:List (Int×Opn)} {os:List Seg},OpsS D l os->OpsS D (l++ [p]) (os++ [s])
 | [], [],_=>⟨h,trivial⟩
 |_::l,_::os,⟨h1,h2⟩=>⟨h1,OpsS.add h h2⟩
 | [],_::_,h=>h.elim
 |_::_, [],h=>h.elim
theorem Inv.newopen {w0 w:World} {D:Sto} {ss:List Seg} {x1 x2 n1 n2:Nat×Obj} {os:List Seg} (h:Inv w0 D ([x1]:: [x2]:: [n1]:: [n2]::os.flatten::ss) w):Inv w0 D ((x1::x2::(os++ [[n1,n2]]).flatten)::ss) w:=h.perm (by
 simp only [List.flatten_cons,List.flatten_append,List.flatten_nil,List.append_nil,List.singleton_append,List.cons_append,List.nil_append,List.append_assoc];exact (((List.perm_append_comm_assoc [n1,n2] os.flatten ss.flatten).cons x2).cons x1).symm)
theorem Inv.open_db {w0 w:World} {D:Sto} {ss:List Seg} {x1 x2:Nat×Obj} {t:Seg} (h:Inv w0 D ((x1::x2::t)::ss) w):Inv w0 D ([x1]:: [x2]::t::ss) w:=h.perm (List.Perm.of_eq (by simp))
theorem Inv.shut_db {w0 w:World} {D:Sto} {ss:List Seg} {x1 x2:Nat×Obj} {t:Seg} (h:Inv w0 D ([x1]:: [x2]::t::ss) w):Inv w0 D ((x1::x2::t)::ss) w:=h.perm (List.Perm.of_eq (by simp))
structure DbOk (d:Db):Prop where
 e0:0<=d.epoch
 e1:d.epoch<=1073741824
 b0:0<=d.begun
 b1:d.begun<1048576
 s0:0<=d.seq
 s1:d.seq<=1000000000000
 ids: ∀p∈d.l,d.epoch*1048576<p.1/\p.1<=d.epoch*1048576+d.begun
 len:d.l.length<=16
def Db.room (d:Db):Bool:=decide (d.l.length<16/\d.begun+1<1048576)
def Db.next (d:Db):Int:=d.epoch*1048576+(d.begun+1)
def Db.begin (d:Db) (bo:Nat):Db:={d with begun:=d.begun+1,seq:=d.seq+1,l:=d.l++ [(d.next,⟨0, [],bo⟩)]}
theorem Db.fresh {d:Db} (h:DbOk d):d.next ∉ (d.l.map ptrOf).map (·.1):=by intro hm;simp only [List.map_map,List.mem_map,Function.comp_apply,ptrOf] at hm;obtain ⟨p,hp,he⟩:=hm;have:=(h.ids p hp).2;unfold Db.next at he;omega
theorem DbOk.begin {d:Db} (h:DbOk d) (hr:d.room=true) (bo:Nat) (hs:d.seq+1<=1000000000000):DbOk (d.begin bo):=by
 simp only [Db.room,decide_eq_true_eq] at hr;refine ⟨h.e0,h.e1,by have:=h.b0;show 0<=d.begun+1;omega,hr.2,by have:=h.s0;show 0<=d.seq+1;omega,hs,fun p hp=> ?_,by show (d.l++_).length<=16;simp;omega⟩;have hb:=h.b0;rcases List.mem_append.1 hp with q|q
 ·have:=h.ids p q;exact ⟨this.1,by show p.1<=d.epoch*1048576+(d.begun+1);omega⟩
 simp only [List.mem_singleton] at q;subst q;exact ⟨by show _<d.next;unfold Db.next;show d.epoch*1048576<_;omega,by show d.next<=_;unfold Db.next;exact Int.le_refl _⟩
theorem TxNew_spec {w0 w:World} {D:Sto} {ss:List Seg} (I:Inv w0 D ss w) {ad:Nat->Addr} (hS:TSents D ad) (e:Int) {q:Nat} :
  Calls Tryz.prog 99 #[.int .i64 e, .pointer (some ⟨q,0,none⟩)] w (Ret fun r w'=>(¬(0<=e/\e<=1073741824)/\r= .tuple #[.pointer none,errV ad 105]/\Inv w0 D ss w')\/((0<=e/\e<=1073741824)/\ ∃vd s,r= .tuple #[vd, .nilIface]/\DbS D vd (.pointer (some ⟨q,0,none⟩)) ⟨e,0,0, []⟩ s/\Inv w0 D (s::ss) w')):=by
 refine enter (N:=18) Tryz.func99 rfl rfl rfl ?_;intro a Z;refine go 7 Z I ?_;clear Z a;intro a Z;refine cmx Z ?_ ?_
 ·intro he0;replace he0:=lss_t he0;clear Z a;intro a Z;refine go 6 Z I ?_;clear Z a;intro a Z;refine wp_seq ?_;refine d_start [] [] (by kernel_rfl) I rfl rfl ?_;clear I w;intro w I;obtain ⟨T_1,fr_1,hg_1⟩:=hS.g105;refine dl 0 Z rfl (fun w hS=>f_load rfl scal_38 (Inv.data hS _ _ (hg_1)) rfl) (I) (listed':= #[true,false,false]) ?_;clear Z a;intro a Z;refine dp 1 Z rfl (p_assign rfl) (fun _=>I) ?_;clear Z a;intro a Z;refine dp 2 Z rfl (p_assign rfl) (fun _=>I) ?_;clear Z a;intro a Z;refine dnx ?_;refine gc 3 Z ?_;refine ret2 rfl Z rfl rfl ?_;exact .inl ⟨by omega,rfl,I⟩
 intro he0;replace he0:=lss_f he0;clear Z a;intro a Z;refine go 2 Z I ?_;clear Z a;intro a Z;refine cgx Z ?_ ?_
 ·intro he1;replace he1:=gtr_t he1;clear Z a;intro a Z;refine go 3 Z I ?_;clear Z a;intro a Z;refine wp_seq ?_;refine d_start [] [] (by kernel_rfl) I rfl rfl ?_;clear I w;intro w I;obtain ⟨T_2,fr_2,hg_2⟩:=hS.g105;refine dl 0 Z rfl (fun w hS=>f_load rfl scal_38 (Inv.data hS _ _ (hg_2)) rfl) (I) (listed':= #[true,false,false]) ?_;clear Z a;intro a Z;refine dp 1 Z rfl (p_assign rfl) (fun _=>I) ?_;clear Z a;intro a Z;refine dp 2 Z rfl (p_assign rfl) (fun _=>I) ?_;clear Z a;intro a Z;refine dnx ?_;refine gc 3 Z ?_;refine ret2 rfl Z rfl rfl ?_;exact .inl ⟨by omega,rfl,I⟩
 intro he1;replace he1:=gtr_f he1;clear Z a;intro a Z;refine go 8 Z I ?_;clear Z a;intro a Z;refine l_step rfl (f_makeMap Z I rfl rfl rfl ?_);clear I Z a w;intro a b3 w Z I;refine zs Z (f_build (vs:= [(0,_),(1,_),(3,_)]) (l:= [_,_,_,_,_]) rfl built_175 rfl) ?_;clear Z a;intro a Z;refine l_step rfl (f_box (cs:= #[_,_,_,_,_]) Z I rfl rfl rfl rfl rfl ?_);clear I Z a w;intro a b4 w Z I;refine go 4 Z I ?_;clear Z a;intro a Z;refine ret2 rfl Z rfl rfl ?_;exact .inr ⟨by omega,_,_,rfl,⟨_,b3, #[],0, [],rfl,rfl,IntMap.empty,trivial⟩,Inv.shut_db (t:= []) (I.perm (List.Perm.of_eq (by simp)))⟩
theorem Begin_spec {w0 w:World} {D:Sto} {ss:List Seg} {s:Seg} {vd vp:Value} {d:Db} (I:Inv w0 D (s::ss) w) {ad:Nat->Addr} (hS:TSents D ad) (hd:DbS D vd vp d s) (hdb:DbOk d) :
  Calls Tryz.prog 47 #[vd] w (Ret fun r w'=>(d.room=false/\r= .tuple #[.int .i64 0,errV ad 109]/\DbS D vd vp d s/\Inv w0 D (s::ss) w')\/(d.room=true/\ ∃bo s',r= .tuple #[.int .i64 d.next, .nilIface]/\DbS D vd vp (d.begin bo) s'/\Inv w0 D (s'::ss) w')):=by
 have hdb9:=hdb;have hfr:=Db.fresh hdb;have hll:((d.l.map ptrOf).length:Int)=d.l.length:=by simp
 obtain ⟨bd,bl,esl,clkl,os,rfl,rfl,hml,hos⟩:=hd;obtain ⟨e0,e1,b0,b1,s0,s1,hids,hlen⟩:=hdb;replace I:=I.open_db;refine enter (N:=53) Tryz.func47 rfl rfl rfl ?_;intro a Z;refine go 7 Z I ?_;clear Z a;intro a Z;refine zs Z (p_nilCheck rfl) ?_;clear Z a;intro a Z;refine go 2 Z I ?_;clear Z a;intro a Z;refine zl Z (r_lenM rfl rfl Tryz.underlying173 (I.seg 1 rfl) hml) ?_;clear Z a;intro a Z;refine cmx Z ?_ ?_
 ·intro hfull;replace hfull:=geq_t hfull;clear Z a;intro a Z;refine go 10 Z I ?_;clear Z a;intro a Z;refine wp_seq ?_;refine d_start [] [] (by kernel_rfl) I rfl rfl ?_;clear I w;intro w I;obtain ⟨T_1,fr_1,hg_1⟩:=hS.g109;refine dl 0 Z rfl (fun w hS=>f_load rfl scal_38 (Inv.data hS _ _ (hg_1)) rfl) (I) (listed':= #[true,false,false]) ?_;clear Z a;intro a Z;refine dp 1 Z rfl (p_assign rfl) (fun _=>I) ?_;clear Z a;intro a Z;refine dp 2 Z rfl (p_assign rfl) (fun _=>I) ?_;clear Z a;intro a Z;refine dnx ?_;refine gc 3 Z ?_;refine ret2 rfl Z rfl rfl ?_;exact .inl ⟨by simp only [Db.room,decide_eq_false_iff_not];omega,rfl,⟨bd,bl,_,_,os,rfl,rfl,hml,hos⟩,I.shut_db⟩
 intro hfull;replace hfull:=geq_f hfull;clear Z a;intro a Z;refine go 2 Z I ?_;clear Z a;intro a Z;refine gs Z (p_nilCheck rfl) ?_;clear Z a;intro a Z;refine go 2 Z I ?_;clear Z a;intro a Z;refine gs Z (p_arith (z:=d.begun+1) rfl rfl (add_z rfl (by omega) (by omega))) ?_;clear Z a;intro a Z;refine cgx Z ?_ ?_
 ·intro hmany;replace hmany:=geq_t hmany;clear Z a;intro a Z;refine go 3 Z I ?_;clear Z a;intro a Z;refine wp_seq ?_;refine d_start [] [] (by kernel_rfl) I rfl rfl ?_;clear I w;intro w I;obtain ⟨T_2,fr_2,hg_2⟩:=hS.g109;refine dl 0 Z rfl (fun w hS=>f_load rfl scal_38 (Inv.data hS _ _ (hg_2)) rfl) (I) (listed':= #[true,false,false]) ?_;clear Z a;intro a Z;refine dp 1 Z rfl (p_assign rfl) (fun _=>I) ?_;clear Z a;intro a Z;refine dp 2 Z rfl (p_assign rfl) (fun _=>I) ?_;clear Z a;intro a Z;refine dnx ?_;refine gc 3 Z ?_;refine ret2 rfl Z rfl rfl ?_;exact .inl ⟨by simp only [Db.room,decide_eq_false_iff_not];omega,rfl,⟨bd,bl,_,_,os,rfl,rfl,hml,hos⟩,I.shut_db⟩
 intro hmany;replace hmany:=geq_f hmany;clear Z a;intro a Z;refine go 7 Z I ?_;clear Z a;intro a Z;refine zs Z (p_nilCheck rfl) ?_;clear Z a;intro a Z;refine go 2 Z I ?_;clear Z a;intro a Z;refine zs Z (p_arith (z:=d.begun+1) rfl rfl (add_z rfl (by omega) (by omega))) ?_;clear Z a;intro a Z;refine zs Z (p_nilCheck rfl) ?_;clear Z a;intro a Z;refine zs Z (p_fieldAddr (m:=2) rfl fo_175_2 rfl) ?_;clear Z a;intro a Z;refine l_step rfl (f_store (l:= [_,_,_,_,_]) (ss':=_::_) 0 Z I rfl rfl rfl rfl rfl sz_3 (by simp [Value.cells,Value.oneCell',pgCells,rcCells,zPg,errV]) rfl rfl rfl ?_);clear I w;intro w I;refine go 3 Z I ?_;clear Z a;intro a Z;refine zs Z (p_nilCheck rfl) ?_;clear Z a;intro a Z;refine go 2 Z I ?_;clear Z a;intro a Z;refine zs Z (p_arith (z:=d.seq+1) rfl rfl (add_z rfl (by omega) (by omega))) ?_;clear Z a;intro a Z;refine zs Z (p_nilCheck rfl) ?_;clear Z a;intro a Z;refine zs Z (p_fieldAddr (m:=4) rfl fo_175_4 rfl) ?_;clear Z a;intro a Z;refine l_step rfl (f_store (l:= [_,_,_,_,_]) (ss':=_::_) 0 Z I rfl rfl rfl rfl rfl sz_3 (by simp [Value.cells,Value.oneCell',pgCells,rcCells,zPg,errV]) rfl rfl rfl ?_);clear I w;intro w I;refine wnt ?_;refine wp_seq ?_;refine d_start [] [] (by kernel_rfl) I rfl rfl ?_;clear I w;intro w I;refine dp 0 Z rfl (p_move rfl) (fun _=>I) (listed':= #[true,false,false,false,false,false,false,false,false,false,false]) ?_;clear Z a;intro a Z;refine dp 1 Z rfl (p_nilCheck rfl) (fun _=>I) ?_;clear Z a;intro a Z;refine dp 2 Z rfl (p_fieldAddr (m:=0) rfl fo_175_0 rfl) (fun _=>I) ?_;clear Z a;intro a Z;refine dl 3 Z rfl (fun w hS=>f_load rfl scal_3 (Inv.seg 0 hS rfl) rfl) (I) ?_;clear Z a;intro a Z;refine dp 4 Z rfl (p_arith (z:=d.epoch*1048576) rfl rfl (mul_z rfl (by omega) (by omega))) (fun _=>I) ?_;clear Z a;intro a Z;refine dp 5 Z rfl (p_move rfl) (fun _=>I) ?_;clear Z a;intro a Z;refine dp 6 Z rfl (p_nilCheck rfl) (fun _=>I) ?_;clear Z a;intro a Z;refine dp 7 Z rfl (p_fieldAddr (m:=2) rfl fo_175_2 rfl) (fun _=>I) ?_;clear Z a;intro a Z;refine dl 8 Z rfl (fun w hS=>f_load rfl scal_3 (Inv.seg 0 hS rfl) rfl) (I) ?_;clear Z a;intro a Z;refine dp 9 Z rfl (p_arith (z:=d.next) rfl rfl (add_z rfl (by unfold Db.next;omega) (by unfold Db.next;omega))) (fun _=>I) ?_;clear Z a;intro a Z;refine dp 10 Z rfl (p_assign rfl) (fun _=>I) ?_;clear Z a;intro a Z;refine dnx ?_;refine go 3 Z I ?_;clear Z a;intro a Z;refine zs Z (p_nilCheck rfl) ?_;clear Z a;intro a Z;refine go 3 Z I ?_;clear Z a;intro a Z;refine l_step rfl (f_makeMap Z I rfl rfl rfl ?_);clear I Z a w;intro a b3 w Z I;refine zs Z (f_build (vs:= [(1,_)]) (l:= [_,_]) rfl built_179 rfl) ?_;clear Z a;intro a Z;refine l_step rfl (f_box (cs:= #[_,_]) Z I rfl rfl rfl rfl rfl ?_);clear I Z a w;intro a b4 w Z I;refine l_step rfl (o_mapUpdate 3 Z I rfl (.inl rfl) rfl rfl rfl ik_173 rfl hml ?_);clear I w;intro es_5 clk_5 w hm_5 I;refine go 7 Z I ?_;clear Z a;intro a Z;refine ret2 rfl Z rfl rfl ?_;replace I:=I.bring 4;replace I:=I.bring 2;replace I:=I.bring 2;replace I:=I.bring 4;replace I:=I.bring 4;refine .inr ⟨by simp only [Db.room,decide_eq_true_eq];omega,_,_,rfl,⟨bd,bl,_,_,os++ [_],rfl,rfl, ?_,OpsS.add (p:=(d.next,⟨0, [],_⟩)) ⟨_,_,_, [],rfl,StrMap.empty,trivial⟩ hos⟩,I.newopen⟩;have hm9:=hm_5;rw [putM_new hfr] at hm9;simpa [Db.begin,ptrOf] using hm9
end Go.Proofs.YtkknmpkcfpdllaaGreatDoor.B
