/- What functions of the program compute, each function once: steps over the model, and the plain law of it. -/
import Derived.Test.YtkknmpkcfpdllaaGreatDoorSStr
import Derived.Test.YtkknmpkcfpdllaaGreatDoorTTreeLaid
import Derived.Test.YtkknmpkcfpdllaaGreatDoorTFacts
namespace Go.Proofs.YtkknmpkcfpdllaaGreatDoor.B
open Go Go.Proofs
set_option linter.unusedVariables false
set_option linter.unusedSimpArgs false
theorem strOf_foldl: ∀(bs:List Nat) (acc:ByteArray),((bs.map (fun x=>((x:Nat):Int))).foldl (fun r n=>r.push (UInt8.ofNat n.toNat)) acc)=⟨acc.data++(bs.map UInt8.ofNat).toArray⟩
 | [],acc=>by simp
 |x::r,acc=>by
  rw [List.map_cons,List.foldl_cons,strOf_foldl r];simp [ByteArray.push]
theorem strOf_is (bs:List Nat):strOf bs=⟨(bs.map UInt8.ofNat).toArray⟩:=by rw [strOf,strOf_foldl];simp
theorem strOf_inj {a b:List Nat} (ha: ∀x∈a,x<256) (hb: ∀x∈b,x<256) (h:strOf a=strOf b):a=b:=by
 rw [strOf_is,strOf_is] at h;injection h with h
 have h:a.map UInt8.ofNat=b.map UInt8.ofNat:=by simpa using h
 have inv: ∀l:List Nat,(∀x∈l,x<256)→(l.map UInt8.ofNat).map UInt8.toNat=l:=fun l hl=>by
  rw [List.map_map]
  conv=>rhs;rw [←List.map_id l]
  refine List.map_congr_left fun x hx=> ?_;have:=hl x hx;simp only [Function.comp_apply,UInt8.toNat_ofNat',id_eq];omega
 rw [←inv a ha,←inv b hb,h]
structure Opn where
 n:Nat
 old:List Ent
 bo:Nat
structure Db where
 epoch:Int
 begun:Int
 seq:Int
 l:List (Int×Opn)
def OldR (D:Sto):List (ByteArray×Value)→List Ent→Prop
 | [], []=>True
 |(s,v)::m,e::l=>s=strOf e.key∧(∃vs,v= .agg vs.toArray∧UeR D vs e)∧OldR D m l
 |_,_=>False
theorem OldR.mono {D D':Sto}: ∀{m:List (ByteArray×Value)} {l:List Ent},OldR D m l→Le D D'→OldR D' m l
 | [], [],_,_=>trivial
 |(s,v)::m,e::l,⟨h1,⟨vs,h2,h3⟩,h4⟩,hD=>⟨h1,⟨vs,h2,UeR.keeps D D' vs e hD h3⟩,h4.mono hD⟩
 | [],_::_,h,_=>h.elim
 |_::_, [],h,_=>h.elim
def lookO (l:List Ent) (key:Bs):Option Ent:=l.find? fun e=>decide (e.key=key)
def Byt (bs:Bs):Prop:= ∀x∈bs,x<256
theorem RB.byt {D:Sto} {v:Value} {bs:Bs} (h:RB D v bs):Byt bs:=by obtain ⟨A,c,_,_,h3,_⟩:=h;exact h3
theorem UeR.byt {D:Sto} {vs:List Value} {e:Ent} (h:UeR D vs e):Byt e.key:=by obtain ⟨k,v,_,h1,_⟩:=h;exact h1.byt
theorem OldR.look {D:Sto} {key:Bs} (hk:Byt key): ∀{m:List (ByteArray×Value)} {l:List Ent},OldR D m l→
    (match lookO l key with
     |none=>getS m (strOf key)=none
     |some e=>e.key=key∧e∈l∧ ∃vs,getS m (strOf key)=some (.agg vs.toArray)∧UeR D vs e)
  | [], [],_=>rfl
  |(s,v)::m,e::l,⟨h1,⟨vs,h2,h3⟩,h4⟩=>by
    have ih:=OldR.look hk h4;unfold lookO at ih ⊢;rw [List.find?_cons];by_cases he:e.key=key
    ·subst h1;subst h2;rw [decide_eq_true he];simp only [getS];rw [if_pos (by rw [he])];exact ⟨he,by simp,vs,rfl,h3⟩
    rw [decide_eq_false he];simp only [getS];rw [if_neg (by rw [h1];intro q;exact he (strOf_inj h3.byt hk q))];cases hf:List.find? (fun e=>decide (e.key=key)) l with
    |none=>rw [hf] at ih;exact ih
    |some x=>rw [hf] at ih;obtain ⟨a,b,c⟩:=ih;exact ⟨a,by simp [b],c⟩
  | [],_::_,h=>h.elim
  |_::_, [],h=>h.elim
def OpS (D:Sto) (o:Opn) (s:Seg):Prop:= ∃bm es clk m,s= [(o.bo, .cells #[.int .i64 (o.n:Nat), .map (some bm)] 179 (0,0)),(bm, .map es clk)]∧StrMap es clk m∧OldR D m o.old
def OpsS (D:Sto):List (Int×Opn)→List Seg→Prop
 | [], []=>True
 |p::l,s::ss=>OpS D p.2 s∧OpsS D l ss
 |_,_=>False
theorem OpS.mono {D D':Sto} {o:Opn} {s:Seg} (h:OpS D o s) (hD:Le D D'):OpS D' o s:=by obtain ⟨bm,es,clk,m,h1,h2,h3⟩:=h;exact ⟨bm,es,clk,m,h1,h2,h3.mono hD⟩
theorem OpsS.mono {D D':Sto}: ∀{l:List (Int×Opn)} {ss:List Seg},OpsS D l ss→Le D D'→OpsS D' l ss
 | [], [],_,_=>trivial
 |p::l,s::ss,⟨h1,h2⟩,hD=>⟨h1.mono hD,h2.mono hD⟩
 | [],_::_,h,_=>h.elim
 |_::_, [],h,_=>h.elim
def ptrOf (p:Int×Opn):Int×Value:=(p.1, .pointer (some ⟨p.2.bo,0,none⟩))
def DbS (D:Sto) (vd vp:Value) (d:Db) (s:Seg):Prop:= ∃bd bl es clk os,vd= .pointer (some ⟨bd,0,none⟩)∧
 s=(bd, .cells #[.int .i64 d.epoch,vp, .int .i64 d.begun, .map (some bl), .int .i64 d.seq] 175 (0,0))::(bl, .map es clk)::os.flatten∧IntMap es clk (d.l.map ptrOf)∧OpsS D d.l os
theorem DbS.mono {D D':Sto} {vd vp:Value} {d:Db} {s:Seg} (h:DbS D vd vp d s) (hD:Le D D'):DbS D' vd vp d s:=by obtain ⟨bd,bl,es,clk,os,h1,h2,h3,h4⟩:=h;exact ⟨bd,bl,es,clk,os,h1,h2,h3,h4.mono hD⟩
theorem DbS.ptr {D:Sto} {vd vp:Value} {d:Db} {s:Seg} (h:DbS D vd vp d s): ∃bd,vd= .pointer (some ⟨bd,0,none⟩):=by obtain ⟨bd,_,_,_,_,h1,_⟩:=h;exact ⟨bd,h1⟩
set_option maxRecDepth 20000
set_option maxHeartbeats 8000000
theorem putM_new {k:Int} {v:Value}: ∀{m:List (Int×Value)},k ∉ m.map (·.1)→putM m k v=m++ [(k,v)]
 | [],_=>rfl
 |(q,x)::r,h=>by
  simp only [List.map_cons,List.mem_cons,not_or] at h;simp only [putM];rw [if_neg (fun e=>h.1 e.symm),putM_new h.2];rfl
theorem OpsS.add {D:Sto} {p:Int×Opn} {s:Seg} (h:OpS D p.2 s): ∀{l:List (Int×Opn)} {os:List Seg},OpsS D l os→OpsS D (l++ [p]) (os++ [s])
 | [], [],_=>⟨h,trivial⟩
 |_::l,_::os,⟨h1,h2⟩=>⟨h1,OpsS.add h h2⟩
 | [],_::_,h=>h.elim
 |_::_, [],h=>h.elim
theorem Inv.newopen {w0 w:World} {D:Sto} {ss:List Seg} {x1 x2 n1 n2:Nat×Obj} {os:List Seg} (h:Inv w0 D ([x1]:: [x2]:: [n1]:: [n2]::os.flatten::ss) w):Inv w0 D ((x1::x2::(os++ [[n1,n2]]).flatten)::ss) w:=h.perm (by
 simp only [List.flatten_cons,List.flatten_append,List.flatten_nil,List.append_nil,List.singleton_append,List.cons_append,List.nil_append,List.append_assoc];exact (((List.perm_append_comm_assoc [n1,n2] os.flatten ss.flatten).cons x2).cons x1).symm)
theorem Inv.open_db {w0 w:World} {D:Sto} {ss:List Seg} {x1 x2:Nat×Obj} {t:Seg} (h:Inv w0 D ((x1::x2::t)::ss) w):Inv w0 D ([x1]:: [x2]::t::ss) w:=h.perm (List.Perm.of_eq (by simp))
theorem Inv.shut_db {w0 w:World} {D:Sto} {ss:List Seg} {x1 x2:Nat×Obj} {t:Seg} (h:Inv w0 D ([x1]:: [x2]::t::ss) w):Inv w0 D ((x1::x2::t)::ss) w:=h.perm (List.Perm.of_eq (by simp))
structure DbOk (d:Db):Prop where
 e0:0≤d.epoch
 e1:d.epoch≤1073741824
 b0:0≤d.begun
 b1:d.begun<1048576
 s0:0≤d.seq
 s1:d.seq≤1000000000000
 ids: ∀p∈d.l,d.epoch*1048576<p.1∧p.1≤d.epoch*1048576+d.begun
 len:d.l.length≤16
def Db.room (d:Db):Bool:=decide (d.l.length<16∧d.begun+1<1048576)
def Db.next (d:Db):Int:=d.epoch*1048576+(d.begun+1)
def Db.begin (d:Db) (bo:Nat):Db:={d with begun:=d.begun+1,seq:=d.seq+1,l:=d.l++ [(d.next,⟨0, [],bo⟩)]}
theorem Db.fresh {d:Db} (h:DbOk d):d.next ∉ (d.l.map ptrOf).map (·.1):=by intro hm;simp only [List.map_map,List.mem_map,Function.comp_apply,ptrOf] at hm;obtain ⟨p,hp,he⟩:=hm;have:=(h.ids p hp).2;unfold Db.next at he;omega
theorem DbOk.begin {d:Db} (h:DbOk d) (hr:d.room=true) (bo:Nat) (hs:d.seq+1≤1000000000000):DbOk (d.begin bo):=by
 simp only [Db.room,decide_eq_true_eq] at hr;refine ⟨h.e0,h.e1,by have:=h.b0;show 0≤d.begun+1;omega,hr.2,by have:=h.s0;show 0≤d.seq+1;omega,hs,fun p hp=> ?_,by show (d.l++_).length≤16;simp;omega⟩;have hb:=h.b0;rcases List.mem_append.1 hp with q|q
 ·have:=h.ids p q;exact ⟨this.1,by show p.1≤d.epoch*1048576+(d.begun+1);omega⟩
 simp only [List.mem_singleton] at q;subst q;exact ⟨by show _<d.next;unfold Db.next;show d.epoch*1048576<_;omega,by show d.next≤_;unfold Db.next;exact Int.le_refl _⟩
theorem TxNew_spec {w0 w:World} {D:Sto} {ss:List Seg} (hI:Inv w0 D ss w) {ad:Nat→Addr} (hS:TSents D ad) (e:Int) {q:Nat} :
  Calls Tryz.prog 99 #[.int .i64 e, .pointer (some ⟨q,0,none⟩)] w (Ret fun r w'=>(¬(0≤e∧e≤1073741824)∧r= .tuple #[.pointer none,errV ad 105]∧Inv w0 D ss w')∨((0≤e∧e≤1073741824)∧ ∃vd s,r= .tuple #[vd, .nilIface]∧DbS D vd (.pointer (some ⟨q,0,none⟩)) ⟨e,0,0, []⟩ s∧Inv w0 D (s::ss) w')):=by
 refine enter (N:=18) Tryz.func99 rfl rfl rfl ?_;intro a hE;refine go 7 hE hI ?_;clear hE a;intro a hE;refine l_step rfl (o_cmp hE rfl rfl rfl rfl rfl rfl ?_ ?_)
 ·intro he0;replace he0:=lss_t he0;clear hE a;intro a hE;refine go 6 hE hI ?_;clear hE a;intro a hE;refine wp_seq ?_;refine d_start [] [] (by kernel_rfl) hI rfl rfl ?_;clear hI w;intro w hI;obtain ⟨T_1,fr_1,hg_1⟩:=hS.g105;refine dl 0 hE rfl (fun w hS=>f_load rfl scal_38 (Inv.data hS _ _ (hg_1)) rfl) (hI) (listed':= #[true,false,false]) ?_;clear hE a;intro a hE;refine dp 1 hE rfl (p_assign rfl) (fun _=>hI) ?_;clear hE a;intro a hE;refine dp 2 hE rfl (p_assign rfl) (fun _=>hI) ?_;clear hE a;intro a hE;refine d_done (by kernel_rfl) ?_;refine gc 3 hE ?_;refine ret2 rfl hE rfl rfl ?_;exact .inl ⟨by omega,rfl,hI⟩
 intro he0;replace he0:=lss_f he0;clear hE a;intro a hE;refine go 2 hE hI ?_;clear hE a;intro a hE;refine l_go hE rfl (o_cmp hE rfl rfl rfl rfl rfl rfl ?_ ?_)
 ·intro he1;replace he1:=gtr_t he1;clear hE a;intro a hE;refine go 3 hE hI ?_;clear hE a;intro a hE;refine wp_seq ?_;refine d_start [] [] (by kernel_rfl) hI rfl rfl ?_;clear hI w;intro w hI;obtain ⟨T_2,fr_2,hg_2⟩:=hS.g105;refine dl 0 hE rfl (fun w hS=>f_load rfl scal_38 (Inv.data hS _ _ (hg_2)) rfl) (hI) (listed':= #[true,false,false]) ?_;clear hE a;intro a hE;refine dp 1 hE rfl (p_assign rfl) (fun _=>hI) ?_;clear hE a;intro a hE;refine dp 2 hE rfl (p_assign rfl) (fun _=>hI) ?_;clear hE a;intro a hE;refine d_done (by kernel_rfl) ?_;refine gc 3 hE ?_;refine ret2 rfl hE rfl rfl ?_;exact .inl ⟨by omega,rfl,hI⟩
 intro he1;replace he1:=gtr_f he1;clear hE a;intro a hE;refine go 8 hE hI ?_;clear hE a;intro a hE;refine l_step rfl (f_makeMap hE hI rfl rfl rfl ?_);clear hI hE a w;intro a b3 w hE hI;refine zs hE (f_build (vs:= [(0,_),(1,_),(3,_)]) (l:= [_,_,_,_,_]) rfl built_175 rfl) ?_;clear hE a;intro a hE;refine l_step rfl (f_box (cs:= #[_,_,_,_,_]) hE hI rfl rfl rfl rfl rfl ?_);clear hI hE a w;intro a b4 w hE hI;refine go 4 hE hI ?_;clear hE a;intro a hE;refine ret2 rfl hE rfl rfl ?_;exact .inr ⟨by omega,_,_,rfl,⟨_,b3, #[],0, [],rfl,rfl,IntMap.empty,trivial⟩,Inv.shut_db (t:= []) (hI.perm (List.Perm.of_eq (by simp)))⟩
theorem Begin_spec {w0 w:World} {D:Sto} {ss:List Seg} {s:Seg} {vd vp:Value} {d:Db} (hI:Inv w0 D (s::ss) w) {ad:Nat→Addr} (hS:TSents D ad) (hd:DbS D vd vp d s) (hdb:DbOk d) :
  Calls Tryz.prog 47 #[vd] w (Ret fun r w'=>(d.room=false∧r= .tuple #[.int .i64 0,errV ad 109]∧DbS D vd vp d s∧Inv w0 D (s::ss) w')∨(d.room=true∧ ∃bo s',r= .tuple #[.int .i64 d.next, .nilIface]∧DbS D vd vp (d.begin bo) s'∧Inv w0 D (s'::ss) w')):=by
 have hdb9:=hdb;have hfr:=Db.fresh hdb;have hll:((d.l.map ptrOf).length:Int)=d.l.length:=by simp
 obtain ⟨bd,bl,esl,clkl,os,rfl,rfl,hml,hos⟩:=hd;obtain ⟨e0,e1,b0,b1,s0,s1,hids,hlen⟩:=hdb;replace hI:=hI.open_db;refine enter (N:=53) Tryz.func47 rfl rfl rfl ?_;intro a hE;refine go 7 hE hI ?_;clear hE a;intro a hE;refine zs hE (p_nilCheck rfl) ?_;clear hE a;intro a hE;refine go 2 hE hI ?_;clear hE a;intro a hE;refine zl hE (r_lenM rfl rfl Tryz.underlying173 (hI.seg 1 rfl) hml) ?_;clear hE a;intro a hE;refine l_step rfl (o_cmp hE rfl rfl rfl rfl rfl rfl ?_ ?_)
 ·intro hfull;replace hfull:=geq_t hfull;clear hE a;intro a hE;refine go 10 hE hI ?_;clear hE a;intro a hE;refine wp_seq ?_;refine d_start [] [] (by kernel_rfl) hI rfl rfl ?_;clear hI w;intro w hI;obtain ⟨T_1,fr_1,hg_1⟩:=hS.g109;refine dl 0 hE rfl (fun w hS=>f_load rfl scal_38 (Inv.data hS _ _ (hg_1)) rfl) (hI) (listed':= #[true,false,false]) ?_;clear hE a;intro a hE;refine dp 1 hE rfl (p_assign rfl) (fun _=>hI) ?_;clear hE a;intro a hE;refine dp 2 hE rfl (p_assign rfl) (fun _=>hI) ?_;clear hE a;intro a hE;refine d_done (by kernel_rfl) ?_;refine gc 3 hE ?_;refine ret2 rfl hE rfl rfl ?_;exact .inl ⟨by simp only [Db.room,decide_eq_false_iff_not];omega,rfl,⟨bd,bl,_,_,os,rfl,rfl,hml,hos⟩,hI.shut_db⟩
 intro hfull;replace hfull:=geq_f hfull;clear hE a;intro a hE;refine go 2 hE hI ?_;clear hE a;intro a hE;refine gs hE (p_nilCheck rfl) ?_;clear hE a;intro a hE;refine go 2 hE hI ?_;clear hE a;intro a hE;refine gs hE (p_arith (z:=d.begun+1) rfl rfl (add_z rfl (by omega) (by omega))) ?_;clear hE a;intro a hE;refine l_go hE rfl (o_cmp hE rfl rfl rfl rfl rfl rfl ?_ ?_)
 ·intro hmany;replace hmany:=geq_t hmany;clear hE a;intro a hE;refine go 3 hE hI ?_;clear hE a;intro a hE;refine wp_seq ?_;refine d_start [] [] (by kernel_rfl) hI rfl rfl ?_;clear hI w;intro w hI;obtain ⟨T_2,fr_2,hg_2⟩:=hS.g109;refine dl 0 hE rfl (fun w hS=>f_load rfl scal_38 (Inv.data hS _ _ (hg_2)) rfl) (hI) (listed':= #[true,false,false]) ?_;clear hE a;intro a hE;refine dp 1 hE rfl (p_assign rfl) (fun _=>hI) ?_;clear hE a;intro a hE;refine dp 2 hE rfl (p_assign rfl) (fun _=>hI) ?_;clear hE a;intro a hE;refine d_done (by kernel_rfl) ?_;refine gc 3 hE ?_;refine ret2 rfl hE rfl rfl ?_;exact .inl ⟨by simp only [Db.room,decide_eq_false_iff_not];omega,rfl,⟨bd,bl,_,_,os,rfl,rfl,hml,hos⟩,hI.shut_db⟩
 intro hmany;replace hmany:=geq_f hmany;clear hE a;intro a hE;refine go 7 hE hI ?_;clear hE a;intro a hE;refine zs hE (p_nilCheck rfl) ?_;clear hE a;intro a hE;refine go 2 hE hI ?_;clear hE a;intro a hE;refine zs hE (p_arith (z:=d.begun+1) rfl rfl (add_z rfl (by omega) (by omega))) ?_;clear hE a;intro a hE;refine zs hE (p_nilCheck rfl) ?_;clear hE a;intro a hE;refine zs hE (p_fieldAddr (m:=2) rfl fo_175_2 rfl) ?_;clear hE a;intro a hE;refine l_step rfl (f_store (l:= [_,_,_,_,_]) (ss':=_::_) 0 hE hI rfl rfl rfl rfl rfl sz_3 (by simp [Value.cells,Value.oneCell',pgCells,rcCells,zPg,errV]) rfl rfl rfl ?_);clear hI w;intro w hI;refine go 3 hE hI ?_;clear hE a;intro a hE;refine zs hE (p_nilCheck rfl) ?_;clear hE a;intro a hE;refine go 2 hE hI ?_;clear hE a;intro a hE;refine zs hE (p_arith (z:=d.seq+1) rfl rfl (add_z rfl (by omega) (by omega))) ?_;clear hE a;intro a hE;refine zs hE (p_nilCheck rfl) ?_;clear hE a;intro a hE;refine zs hE (p_fieldAddr (m:=4) rfl fo_175_4 rfl) ?_;clear hE a;intro a hE;refine l_step rfl (f_store (l:= [_,_,_,_,_]) (ss':=_::_) 0 hE hI rfl rfl rfl rfl rfl sz_3 (by simp [Value.cells,Value.oneCell',pgCells,rcCells,zPg,errV]) rfl rfl rfl ?_);clear hI w;intro w hI;refine wnt ?_;refine wp_seq ?_;refine d_start [] [] (by kernel_rfl) hI rfl rfl ?_;clear hI w;intro w hI;refine dp 0 hE rfl (p_move rfl) (fun _=>hI) (listed':= #[true,false,false,false,false,false,false,false,false,false,false]) ?_;clear hE a;intro a hE;refine dp 1 hE rfl (p_nilCheck rfl) (fun _=>hI) ?_;clear hE a;intro a hE;refine dp 2 hE rfl (p_fieldAddr (m:=0) rfl fo_175_0 rfl) (fun _=>hI) ?_;clear hE a;intro a hE;refine dl 3 hE rfl (fun w hS=>f_load rfl scal_3 (Inv.seg 0 hS rfl) rfl) (hI) ?_;clear hE a;intro a hE;refine dp 4 hE rfl (p_arith (z:=d.epoch*1048576) rfl rfl (mul_z rfl (by omega) (by omega))) (fun _=>hI) ?_;clear hE a;intro a hE;refine dp 5 hE rfl (p_move rfl) (fun _=>hI) ?_;clear hE a;intro a hE;refine dp 6 hE rfl (p_nilCheck rfl) (fun _=>hI) ?_;clear hE a;intro a hE;refine dp 7 hE rfl (p_fieldAddr (m:=2) rfl fo_175_2 rfl) (fun _=>hI) ?_;clear hE a;intro a hE;refine dl 8 hE rfl (fun w hS=>f_load rfl scal_3 (Inv.seg 0 hS rfl) rfl) (hI) ?_;clear hE a;intro a hE;refine dp 9 hE rfl (p_arith (z:=d.next) rfl rfl (add_z rfl (by unfold Db.next;omega) (by unfold Db.next;omega))) (fun _=>hI) ?_;clear hE a;intro a hE;refine dp 10 hE rfl (p_assign rfl) (fun _=>hI) ?_;clear hE a;intro a hE;refine d_done (by kernel_rfl) ?_;refine go 3 hE hI ?_;clear hE a;intro a hE;refine zs hE (p_nilCheck rfl) ?_;clear hE a;intro a hE;refine go 3 hE hI ?_;clear hE a;intro a hE;refine l_step rfl (f_makeMap hE hI rfl rfl rfl ?_);clear hI hE a w;intro a b3 w hE hI;refine zs hE (f_build (vs:= [(1,_)]) (l:= [_,_]) rfl built_179 rfl) ?_;clear hE a;intro a hE;refine l_step rfl (f_box (cs:= #[_,_]) hE hI rfl rfl rfl rfl rfl ?_);clear hI hE a w;intro a b4 w hE hI;refine l_step rfl (o_mapUpdate 3 hE hI rfl (.inl rfl) rfl rfl rfl ik_173 rfl hml ?_);clear hI w;intro es_5 clk_5 w hm_5 hI;refine go 7 hE hI ?_;clear hE a;intro a hE;refine ret2 rfl hE rfl rfl ?_;replace hI:=hI.bring 4;replace hI:=hI.bring 2;replace hI:=hI.bring 2;replace hI:=hI.bring 4;replace hI:=hI.bring 4;refine .inr ⟨by simp only [Db.room,decide_eq_true_eq];omega,_,_,rfl,⟨bd,bl,_,_,os++ [_],rfl,rfl, ?_,OpsS.add (p:=(d.next,⟨0, [],_⟩)) ⟨_,_,_, [],rfl,StrMap.empty,trivial⟩ hos⟩,hI.newopen⟩;have hm9:=hm_5;rw [putM_new hfr] at hm9;simpa [Db.begin,ptrOf] using hm9
theorem sk_177:strKeyed Tryz.prog 177=some 35:=by kernel_rfl
theorem OpsS.read {D:Sto} {p:Int×Opn}: ∀{l:List (Int×Opn)} {os:List Seg},OpsS D l os→p∈l→ ∃bm es clk m,(p.2.bo,Obj.cells #[.int .i64 (p.2.n:Nat), .map (some bm)] 179 (0,0))∈os.flatten∧(bm,Obj.map es clk)∈os.flatten∧StrMap es clk m∧OldR D m p.2.old
 |q::l,s::os,⟨h1,h2⟩,hp=>by
  rcases List.mem_cons.1 hp with rfl|hp
  ·obtain ⟨bm,es,clk,m,rfl,h3,h4⟩:=h1;exact ⟨bm,es,clk,m,by simp,by simp,h3,h4⟩
  obtain ⟨bm,es,clk,m,h3,h4,h5⟩:=OpsS.read h2 hp;exact ⟨bm,es,clk,m,by rw [List.flatten_cons];exact List.mem_append_right _ h3,by rw [List.flatten_cons];exact List.mem_append_right _ h4,h5⟩
 | [],_,_,hp=>by simp at hp
 |_::_, [],h,_=>h.elim
theorem uniq_key: ∀{l:List (Int×Opn)},((l.map ptrOf).map (·.1)).Nodup→ ∀{p p':Int×Opn},p∈l→p'∈l→p.1=p'.1→p=p'
 | [],_,p,p',h,_,_=>by simp at h
 |q::l,hn,p,p',h1,h2,he=>by
  simp only [List.map_cons,List.nodup_cons,List.map_map] at hn;have no: ∀r∈l,r.1≠q.1:=fun r hr e=>hn.1 (List.mem_map.2 ⟨r,hr,e⟩);rcases List.mem_cons.1 h1 with g1|g1<;>rcases List.mem_cons.1 h2 with g2|g2
  ·rw [g1,g2]
  ·exact (no p' g2 (by rw [←he,g1])).elim
  ·exact (no p g1 (by rw [he,g2])).elim
  exact uniq_key (by simpa using hn.2) g1 g2 he
def zUe:Value:= .agg #[.int .i64 0, .int .i64 0, .slice none 0 0, .bool false, .slice none 0 0]
def Db.other (d:Db) (tx:Int) (key:Bs) (o:Option Ent):Prop:=match o with
 |some e=> ∃p∈d.l,p.1≠tx∧lookO p.2.old key=some e
 |none=> ∀p∈d.l,p.1≠tx→lookO p.2.old key=none
theorem other_spec {w0 w:World} {D:Sto} {ss:List Seg} {s:Seg} {vd vp vk:Value} {d:Db} {key:Bs} (hI:Inv w0 D (s::ss) w) (hd:DbS D vd vp d s) (hdb:DbOk d) (hk:RB D vk key) (tx:Int) :
  Calls Tryz.prog 107 #[vd, .int .i64 tx,vk] w (Ret fun r w'=> ∃o,d.other tx key o∧((∃e,o=some e∧ ∃vs,r= .tuple #[.agg vs.toArray, .bool true]∧UeR D vs e)∨(o=none∧r= .tuple #[zUe, .bool false]))∧Inv w0 D (s::ss) w'):=by
 obtain ⟨bd,bl,esl,clkl,os,rfl,rfl,hml,hos⟩:=hd;obtain ⟨e0,e1,b0,b1,s0,s1,hids,hlen⟩:=hdb;replace hI:=hI.open_db;obtain ⟨A1,c2,rfl,_⟩:=hk.slice;have hkb:=hk.byt;refine enter (N:=40) Tryz.func107 rfl rfl rfl ?_;intro a hE;refine wsr ?_;refine l_step rfl (f_alloc (cs:= #[.int .i64 0, .int .i64 0, .slice none 0 0, .bool false, .slice none 0 0]) hE hI rfl rfl rfl zer_35 rfl ?_);clear hI hE a w;intro a b3 w hE hI;refine go 5 hE hI ?_;clear hE a;intro a hE;refine zs hE (p_nilCheck rfl) ?_;clear hE a;intro a hE;refine go 2 hE hI ?_;clear hE a;intro a hE;refine l_step rfl (f_range 2 hE hI rfl rfl rfl rfl Tryz.underlying173 rfl ?_);clear hI hE a w;intro a r4 w hE hI;refine gc 2 hE ?_;refine c_loop (X:=Array Nat×List (Int×Opn)) (fun y=> [(0,_),(1,_),(2,_),(6,_),(16,_)]) (fun y w=>Vis esl y.1 (d.l.map ptrOf) (y.2.map ptrOf)∧(∀p∈y.2,p∈d.l∧(p.1≠tx→lookO p.2.old key=none))∧Inv w0 D ([(r4, .mapIter (some bl) clkl y.1 clkl)]:: [(b3, .cells #[.int .i64 0, .int .i64 0, .slice none 0 0, .bool false, .slice none 0 0] 35 (0,0))]:: [(bd, .cells #[.int .i64 d.epoch,vp, .int .i64 d.begun, .map (some bl), .int .i64 d.seq] 175 (0,0))]:: [(bl, .map esl clkl)]::os.flatten::ss) w) (fun y=>d.l.length - y.2.length) (#[], []) (hE.pick [0,1,2,6,16]) ⟨Vis.start _ _,by simp,hI⟩ ?_;clear hE hI a w;rintro ⟨seen,vo⟩ a w hE ⟨hv,hvo,hI⟩;(try dsimp only at hE);(try dsimp only at hv);(try dsimp only at hvo);(try dsimp only at hI);refine wsr ?_;refine l_step rfl (o_next 3 0 hE hI rfl rfl rfl rfl rfl rfl hml hv ?_ ?_)
 ·clear hE a;intro hall a hE;refine go 10 hE hI ?_;clear hE a;intro a hE;refine zs hE (f_build (vs:= []) (l:= [_,_,_,_,_]) rfl built_35 rfl) ?_;clear hE a;intro a hE;refine l_step rfl (f_store (l:= [_,_,_,_,_]) (ss':=_::_::_) 1 hE hI rfl rfl rfl rfl rfl sz_35 (by simp [Value.cells,Value.oneCell',pgCells,rcCells,zPg,errV,zUe]) rfl rfl rfl ?_);clear hI w;intro w hI;refine go 3 hE hI ?_;clear hE a;intro a hE;refine retc2 rfl hE rfl agg_35 (hI.seg 1 rfl) rfl rfl ?_;replace hI:=hI.erase 1;replace hI:=hI.erase 0;refine ⟨none,fun p hp hne=> ?_, .inr ⟨rfl,rfl⟩,hI.shut_db⟩;obtain ⟨p9,hp9,he9⟩:=List.mem_map.1 (hall (ptrOf p) (List.mem_map_of_mem hp));obtain ⟨hv8,hv9⟩:=hvo p9 hp9;have he8:p9.1=p.1:=by
   show (ptrOf p9).1=(ptrOf p).1;rw [he9]
  obtain rfl:=uniq_key hml.nd hv8 hp he8;exact hv9 hne
 clear hE hI a w;intro pp hpm hpn seen2 w hv2 hlast hI a hE;obtain ⟨po,hpo,rfl⟩:=List.mem_map.1 hpm;obtain ⟨bm,eso,clko,mo,hm1,hm2,hsm,hor⟩:=OpsS.read hos hpo;have hlk:=OldR.look hkb hor;obtain ⟨oo,hoo⟩: ∃z,lookO po.2.old key=z:=⟨_,rfl⟩;rw [hoo] at hlk;have hfst:(ptrOf po).1=po.1:=rfl;refine go 8 hE hI ?_;clear hE a;intro a hE;refine zl hE (r_entry rfl (hI.seg 3 rfl) (hI.seg 0 rfl) hml hlast) ?_;clear hE a;intro a hE;refine go 5 hE hI ?_;clear hE a;intro a hE;refine wp_seq ?_;rcases oo with _|eo
 ·refine d_start [11] [] (by kernel_rfl) hI rfl rfl ?_;clear hI w;intro w hI;refine dp 0 hE rfl (p_move rfl) (fun _=>hI) (listed':= #[true,false,false,false,false,false,false,false,false,false,false,false,false]) ?_;clear hE a;intro a hE;refine dp 1 hE rfl (p_nilCheck rfl) (fun _=>hI) ?_;clear hE a;intro a hE;refine dp 2 hE rfl (p_fieldAddr (m:=1) rfl fo_179_1 rfl) (fun _=>hI) ?_;clear hE a;intro a hE;refine dl 3 hE rfl (fun w hS=>r_load rfl scal_177 (Inv.segs 4 hS rfl _ hm1) rfl) (hI) ?_;clear hE a;intro a hE;refine dp 4 hE rfl (p_move rfl) (fun _=>hI) ?_;clear hE a;intro a hE;refine dl 5 hE rfl (fun w hS=>r_toString hS rfl hk Tryz.underlying33 Tryz.underlying5 Tryz.underlying9) (hI) ?_;clear hE a;intro a hE;refine d_two 6 10 hE rfl rfl (by kernel_rfl) rfl rfl (listed':= #[true,true,true,true,true,true,true,false,false,false,false,false,false]) (listed'':= #[true,true,true,true,true,true,false,false,false,false,true,false,false]) rfl rfl ?_ ?_
  ·refine o_pure hE rfl rfl (s_lookupN rfl rfl sk_177 zer_35 (hI.segs 4 rfl _ hm2) hsm hlk) ?_;clear hE a;intro a hE;refine ⟨fun _=>hI, ?_⟩;refine dp 7 hE rfl (p_move rfl) (fun _=>hI) ?_;clear hE a;intro a hE;refine dp 8 hE rfl (f_extract rfl rfl) (fun _=>hI) ?_;clear hE a;intro a hE;refine dp 9 hE rfl (f_extract rfl rfl) (fun _=>hI) ?_;clear hE a;intro a hE;refine do1 10 hE rfl ?_;refine f_alloc (cs:= #[.int .i64 0, .int .i64 0, .slice none 0 0, .bool false, .slice none 0 0]) hE hI rfl rfl rfl zer_35 rfl ?_;clear hI hE a w;intro a b5 w hE hI;refine ⟨fun _=>(hI.dropS [0]), ?_⟩;refine do1 11 hE rfl ?_;refine f_store (l:= [_,_,_,_,_]) (ss':=_::_) 0 hE hI rfl rfl rfl rfl rfl sz_35 (by simp [Value.cells,Value.oneCell',pgCells,rcCells,zPg,errV,zUe]) rfl rfl rfl ?_;clear hI w;intro w hI;refine ⟨nl, ?_⟩;refine dp 12 hE rfl (p_assign rfl) nl ?_;clear hE a;intro a hE;refine d_done (by kernel_rfl) ?_;refine go 13 hE hI ?_;clear hE a;intro a hE;replace hI:=hI.erase 0;exact ⟨(seen2,po::vo),hE.pick [0,1,2,6,16],⟨by simpa using hv2,fun p hp=>by rcases List.mem_cons.1 hp with rfl|hp;exact ⟨hpo,fun _=>hoo⟩;exact hvo p hp,hI⟩,by have:=hv2.len;simp only [List.length_cons,List.length_map] at this;show d.l.length - (vo.length+1)<d.l.length - vo.length;omega⟩
  refine f_alloc (cs:= #[.int .i64 0, .int .i64 0, .slice none 0 0, .bool false, .slice none 0 0]) hE hI rfl rfl rfl zer_35 rfl ?_;clear hI hE a w;intro a b6 w hE hI;refine ⟨fun _=>(hI.dropS [0]), ?_⟩;refine do1 6 hE rfl ?_;refine o_pure hE rfl rfl (s_lookupN rfl rfl sk_177 zer_35 (hI.segs 5 rfl _ hm2) hsm hlk) ?_;clear hE a;intro a hE;refine ⟨fun _=>(hI.dropS [0]), ?_⟩;refine dp 7 hE rfl (p_move rfl) (fun _=>(hI.dropS [0])) ?_;clear hE a;intro a hE;refine dp 8 hE rfl (f_extract rfl rfl) (fun _=>(hI.dropS [0])) ?_;clear hE a;intro a hE;refine dp 9 hE rfl (f_extract rfl rfl) (fun _=>(hI.dropS [0])) ?_;clear hE a;intro a hE;refine do1 11 hE rfl ?_;refine f_store (l:= [_,_,_,_,_]) (ss':=_::_) 0 hE hI rfl rfl rfl rfl rfl sz_35 (by simp [Value.cells,Value.oneCell',pgCells,rcCells,zPg,errV,zUe]) rfl rfl rfl ?_;clear hI w;intro w hI;refine ⟨nl, ?_⟩;refine dp 12 hE rfl (p_assign rfl) nl ?_;clear hE a;intro a hE;refine d_done (by kernel_rfl) ?_;refine go 13 hE hI ?_;clear hE a;intro a hE;replace hI:=hI.erase 0;exact ⟨(seen2,po::vo),hE.pick [0,1,2,6,16],⟨by simpa using hv2,fun p hp=>by rcases List.mem_cons.1 hp with rfl|hp;exact ⟨hpo,fun _=>hoo⟩;exact hvo p hp,hI⟩,by have:=hv2.len;simp only [List.length_cons,List.length_map] at this;show d.l.length - (vo.length+1)<d.l.length - vo.length;omega⟩
 obtain ⟨hek,hel,vs9,hlg,hue⟩:=hlk;obtain ⟨ku,vu,rfl,hku,hvu⟩:=hue;obtain ⟨A7,c8,rfl,_⟩:=hku.slice;obtain ⟨A9,c10,rfl,_⟩:=hvu.slice;refine d_start [11] [] (by kernel_rfl) hI rfl rfl ?_;clear hI w;intro w hI;refine dp 0 hE rfl (p_move rfl) (fun _=>hI) (listed':= #[true,false,false,false,false,false,false,false,false,false,false,false,false]) ?_;clear hE a;intro a hE;refine dp 1 hE rfl (p_nilCheck rfl) (fun _=>hI) ?_;clear hE a;intro a hE;refine dp 2 hE rfl (p_fieldAddr (m:=1) rfl fo_179_1 rfl) (fun _=>hI) ?_;clear hE a;intro a hE;refine dl 3 hE rfl (fun w hS=>r_load rfl scal_177 (Inv.segs 4 hS rfl _ hm1) rfl) (hI) ?_;clear hE a;intro a hE;refine dp 4 hE rfl (p_move rfl) (fun _=>hI) ?_;clear hE a;intro a hE;refine dl 5 hE rfl (fun w hS=>r_toString hS rfl hk Tryz.underlying33 Tryz.underlying5 Tryz.underlying9) (hI) ?_;clear hE a;intro a hE;refine d_two 6 10 hE rfl rfl (by kernel_rfl) rfl rfl (listed':= #[true,true,true,true,true,true,true,false,false,false,false,false,false]) (listed'':= #[true,true,true,true,true,true,false,false,false,false,true,false,false]) rfl rfl ?_ ?_
 ·refine o_pure hE rfl rfl (s_lookupY rfl rfl sk_177 zer_35 (hI.segs 4 rfl _ hm2) hsm hlg) ?_;clear hE a;intro a hE;refine ⟨fun _=>hI, ?_⟩;refine dp 7 hE rfl (p_move rfl) (fun _=>hI) ?_;clear hE a;intro a hE;refine dp 8 hE rfl (f_extract rfl rfl) (fun _=>hI) ?_;clear hE a;intro a hE;refine dp 9 hE rfl (f_extract rfl rfl) (fun _=>hI) ?_;clear hE a;intro a hE;refine do1 10 hE rfl ?_;refine f_alloc (cs:= #[.int .i64 0, .int .i64 0, .slice none 0 0, .bool false, .slice none 0 0]) hE hI rfl rfl rfl zer_35 rfl ?_;clear hI hE a w;intro a b11 w hE hI;refine ⟨fun _=>(hI.dropS [0]), ?_⟩;refine do1 11 hE rfl ?_;refine f_store (l:= [_,_,_,_,_]) (ss':=_::_) 0 hE hI rfl rfl rfl rfl rfl sz_35 (by simp [Value.cells,Value.oneCell',pgCells,rcCells,zPg,errV,zUe]) rfl rfl rfl ?_;clear hI w;intro w hI;refine ⟨nl, ?_⟩;refine dp 12 hE rfl (p_assign rfl) nl ?_;clear hE a;intro a hE;refine d_done (by kernel_rfl) ?_;refine go 6 hE hI ?_;clear hE a;intro a hE;refine l_go hE rfl (o_cmp hE rfl rfl rfl rfl rfl rfl ?_ ?_)
  ·intro hntx;replace hntx:=neq_t hntx;clear hE a;intro a hE;refine go 5 hE hI ?_;clear hE a;intro a hE;refine l_step rfl (f_store (l:= [_,_,_,_,_]) (ss':=_::_::_::_) 2 hE hI rfl rfl rfl rfl rfl sz_35 (by simp [Value.cells,Value.oneCell',pgCells,rcCells,zPg,errV,zUe]) rfl rfl rfl ?_);clear hI w;intro w hI;refine go 7 hE hI ?_;clear hE a;intro a hE;refine retc2 rfl hE rfl agg_35 (hI.seg 2 rfl) rfl rfl ?_;replace hI:=hI.erase 2;replace hI:=hI.erase 1;replace hI:=hI.erase 0;exact ⟨some eo,⟨po,hpo,by omega,hoo⟩, .inl ⟨eo,rfl,_,rfl,⟨_,_,rfl,hku,hvu⟩⟩,hI.shut_db⟩
  intro hntx;replace hntx:=neq_f hntx;clear hE a;intro a hE;refine go 6 hE hI ?_;clear hE a;intro a hE;replace hI:=hI.erase 0;exact ⟨(seen2,po::vo),hE.pick [0,1,2,6,16],⟨by simpa using hv2,fun p hp=>by rcases List.mem_cons.1 hp with rfl|hp;exact ⟨hpo,fun hne=>absurd hne (by first|exact hntx|omega)⟩;exact hvo p hp,hI⟩,by have:=hv2.len;simp only [List.length_cons,List.length_map] at this;show d.l.length - (vo.length+1)<d.l.length - vo.length;omega⟩
 refine f_alloc (cs:= #[.int .i64 0, .int .i64 0, .slice none 0 0, .bool false, .slice none 0 0]) hE hI rfl rfl rfl zer_35 rfl ?_;clear hI hE a w;intro a b12 w hE hI;refine ⟨fun _=>(hI.dropS [0]), ?_⟩;refine do1 6 hE rfl ?_;refine o_pure hE rfl rfl (s_lookupY rfl rfl sk_177 zer_35 (hI.segs 5 rfl _ hm2) hsm hlg) ?_;clear hE a;intro a hE;refine ⟨fun _=>(hI.dropS [0]), ?_⟩;refine dp 7 hE rfl (p_move rfl) (fun _=>(hI.dropS [0])) ?_;clear hE a;intro a hE;refine dp 8 hE rfl (f_extract rfl rfl) (fun _=>(hI.dropS [0])) ?_;clear hE a;intro a hE;refine dp 9 hE rfl (f_extract rfl rfl) (fun _=>(hI.dropS [0])) ?_;clear hE a;intro a hE;refine do1 11 hE rfl ?_;refine f_store (l:= [_,_,_,_,_]) (ss':=_::_) 0 hE hI rfl rfl rfl rfl rfl sz_35 (by simp [Value.cells,Value.oneCell',pgCells,rcCells,zPg,errV,zUe]) rfl rfl rfl ?_;clear hI w;intro w hI;refine ⟨nl, ?_⟩;refine dp 12 hE rfl (p_assign rfl) nl ?_;clear hE a;intro a hE;refine d_done (by kernel_rfl) ?_;refine go 6 hE hI ?_;clear hE a;intro a hE;refine l_go hE rfl (o_cmp hE rfl rfl rfl rfl rfl rfl ?_ ?_)
 ·intro hntx;replace hntx:=neq_t hntx;clear hE a;intro a hE;refine go 5 hE hI ?_;clear hE a;intro a hE;refine l_step rfl (f_store (l:= [_,_,_,_,_]) (ss':=_::_::_::_) 2 hE hI rfl rfl rfl rfl rfl sz_35 (by simp [Value.cells,Value.oneCell',pgCells,rcCells,zPg,errV,zUe]) rfl rfl rfl ?_);clear hI w;intro w hI;refine go 7 hE hI ?_;clear hE a;intro a hE;refine retc2 rfl hE rfl agg_35 (hI.seg 2 rfl) rfl rfl ?_;replace hI:=hI.erase 2;replace hI:=hI.erase 1;replace hI:=hI.erase 0;exact ⟨some eo,⟨po,hpo,by omega,hoo⟩, .inl ⟨eo,rfl,_,rfl,⟨_,_,rfl,hku,hvu⟩⟩,hI.shut_db⟩
 intro hntx;replace hntx:=neq_f hntx;clear hE a;intro a hE;refine go 6 hE hI ?_;clear hE a;intro a hE;replace hI:=hI.erase 0;exact ⟨(seen2,po::vo),hE.pick [0,1,2,6,16],⟨by simpa using hv2,fun p hp=>by rcases List.mem_cons.1 hp with rfl|hp;exact ⟨hpo,fun hne=>absurd hne (by first|exact hntx|omega)⟩;exact hvo p hp,hI⟩,by have:=hv2.len;simp only [List.length_cons,List.length_map] at this;show d.l.length - (vo.length+1)<d.l.length - vo.length;omega⟩
end Go.Proofs.YtkknmpkcfpdllaaGreatDoor.B
