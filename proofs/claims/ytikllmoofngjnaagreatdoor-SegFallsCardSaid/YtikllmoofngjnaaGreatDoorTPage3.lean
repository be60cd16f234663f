/- What functions of the program compute, each function once: steps over the model, and the plain law of it. -/
import Derived.Test.YtikllmoofngjnaaGreatDoorTSegP
import Derived.Test.YtikllmoofngjnaaGreatDoorSLogB
import Derived.Test.YtikllmoofngjnaaGreatDoorTFacts
namespace Go.Proofs.YtikllmoofngjnaaGreatDoor.B
open Go Go.Proofs
set_option linter.unusedVariables false
set_option linter.unusedSimpArgs false
structure Ht where
 group:Int
 l:List Rc:= []
 spans:List Sp:= []
 cuts:Int:=0
 scl:Int:=0
 known:Bool:=false
def plR (l:List Rc) (n:Int):Nat:=(l.takeWhile fun r=>decide (r.lsn<n)).length
def putR (l:List Rc) (r:Rc):List Rc:=l.take (plR l r.lsn)++r::l.drop (plR l r.lsn)
def RisesR (l:List Rc):Prop:=l.Pairwise fun a b=>a.lsn<b.lsn
theorem plR_le: ∀(l:List Rc) (n:Int),plR l n<=l.length:=fun l n=>by
 have:=(List.takeWhile_prefix (fun r:Rc=>decide (r.lsn<n)) (l:=l)).length_le;exact this
theorem tw_all {p:Rc->Bool}: ∀(l:List Rc),∀x∈l.takeWhile p,p x=true
 | [],x,h=>by simp at h
 |a::l,x,h=>by
  rw [List.takeWhile_cons] at h;split at h
  ·rename_i ha;rcases List.mem_cons.1 h with rfl|h
   ·exact ha
   exact tw_all l x h
  simp at h
theorem plR_lt {l:List Rc} {n:Int} {i:Nat} {r:Rc} (hi:i<plR l n) (hr:l[i]? =some r):r.lsn<n:=by
 have hp:l.takeWhile (fun r=>decide (r.lsn<n)) <+:l:=List.takeWhile_prefix _;have h1:(l.takeWhile fun r=>decide (r.lsn<n))[i]? =some r:=by obtain ⟨t,ht⟩:=hp;rw [<-ht,List.getElem?_append_left hi] at hr;exact hr
 have:=tw_all l r (List.mem_of_getElem? h1);simpa using this
theorem plR_at {l:List Rc} {n:Int} {r:Rc} (hr:l[plR l n]? =some r):n<=r.lsn:=by
 unfold plR at hr;induction l with
 |nil=>simp at hr
 |cons a l ih=>
  rw [List.takeWhile_cons] at hr;split at hr
  ·exact ih (by simpa using hr)
  rename_i h;have:a=r:=by simpa using hr
  subst this;simp at h;exact h
theorem plR_here {l:List Rc} {n:Int} {r:Rc} (hs:RisesR l) (hr:r∈l) (hn:r.lsn=n):l[plR l n]? =some r:=by
 obtain ⟨i,hi,he⟩:=List.getElem_of_mem hr;have h1:l[i]? =some r:=by rw [List.getElem?_eq_getElem hi,he]
 rcases Nat.lt_trichotomy i (plR l n) with q|q|q
 ·have:=plR_lt q h1;omega
 ·rw [<-q];exact h1
 have h0:l[plR l n]? =some l[plR l n]:=List.getElem?_eq_getElem (by omega);have h2:=plR_at h0;have h3:=List.pairwise_iff_getElem.1 hs _ _ (by omega) hi q;rw [he] at h3;omega
section
variable {P:Program} {ops:Array Oper} {Q:Exit->Act->World->Prop} {a:Act} {w0 w w':World} {D:Sto} {ss:List Seg} {rest:List Oper} {o:Oper} {N:Nat} {env:Env} {K:Act->World->Prop}
theorem o_clearM_ {t u:TypeId} {v:TypeId} {x:Operand} {b:Nat} {es:Array MapEntry} {clock:Nat} {ts:Array TypeId} (j:Nat) (Z:EnvOk N env a) (I:Inv w0 D ss w) (hd:o.dst=none)
    (ho:o.op= .call {callee:= .builtin .clear,args:= #[x],argTypes:=ts}) (hx:ev env x=some (.map (some b))) (hts:ts[0]? =some t) (ht:P.underlying t=some (.map u v)) (hj:ss[j]? =some [(b, .map es clock)])
    (k: ∀w',Inv w0 D (ss.set j [(b, .map #[] clock)]) w'->K a w'):o.wp P a w K Q:=by
  have hb:=I.seg j hj;have hrun:(execOp a.eval o).run P w= .ok (.value (.tuple #[])) {w with heap:=w.heap.setIfInBounds b (.map #[] clock)}:=by simp [execOp,ho,resolve,Z.eval hx,invoke,builtin,Builtin.clear_,hts,run_underlying ht,run_getObj hb rfl,run_setObj hb rfl]
  exact o_val hrun (by rw [hd];exact k _ (I.turn_at j hj))
theorem IntMap.none (clock:Nat):IntMap #[] clock []:=⟨rfl,by simp,by simp,by simp⟩
end
set_option maxRecDepth 20000
set_option maxHeartbeats 8000000
section
variable {P:Program} {ops:Array Oper} {Q:Exit->Act->World->Prop} {a:Act} {w0 w w':World} {D:Sto} {ss:List Seg} {rest:List Oper} {o:Oper} {N:Nat} {env:Env} {K:Act->World->Prop}
end
open Go
theorem RB.one {D:Sto} {v:Value} {bs:List Nat} (h:RB D v bs):v.oneCell'=true:=by obtain ⟨A,c,rfl,_⟩:=h.slice;rfl
section
variable {P:Program} {env:Env}
theorem p_sliceAt {t e:TypeId} {x:Operand} {lo hi:Option Operand} {g off n c size l h:Nat} (hx:ev env x=some (.slice (some ⟨g,off,none⟩) n c)) (ht:P.underlying t=some (.slice e)) (hs:(P.info? e).map (·.size)=some size)
  (hl:loE env 0 lo=some l) (hh:loE env n hi=some h) (hlh:l<=h) (hhc:h<=c) (hlt:l<c):PureOp P env (.slice t x lo hi none) (.slice (some ⟨g,off+l*size,none⟩) (h - l) (c - l)):=by
 have:=p_slice (P:=P) (lo:=lo) (hi:=hi) (l:=l) (h:=h) hx ht hs (by cases lo<;>exact hl) (by cases hi<;>exact hh) hlh hhc;rw [if_neg (by omega)] at this;simpa [addr_add] using this
theorem p_sliceL {t e:TypeId} {x:Operand} {lo hi:Option Operand} {A:Option Addr} {n c size l h:Nat} (hx:ev env x=some (.slice A n c)) (ht:P.underlying t=some (.slice e)) (hs:(P.info? e).map (·.size)=some size)
  (hl:loE env 0 lo=some l) (hh:loE env n hi=some h) (hlh:l<=h) (hhc:h<=c):PureOp P env (.slice t x lo hi none) (.slice (if c=l then A else A.map (·.add (l*size))) (h - l) (c - l)):=
 p_slice (P:=P) (lo:=lo) (hi:=hi) (l:=l) (h:=h) hx ht hs (by cases lo<;>exact hl) (by cases hi<;>exact hh) hlh hhc
theorem r_overlaps {f tr:Nat} {xs:Array Operand} {ts:Array TypeId} {fn:Func} {t e size b g off la ca lb cb Tb T:Nat} {cb' cur:Array Value} {w:World} (hv:xs.toList.map (ev env)= [some (.slice (some ⟨b,0,none⟩) la ca),some (.slice (some ⟨g,off,none⟩) lb cb)])
  (hf:P.funcs[f]? =some fn) (hname:(fn.name== "runtime.NumGoroutine")=false) (hb:fn.body.isNone=true) (hn:Extern.findNext fn=none) (he:Extern.find fn=some (Extern.SlicesOverlaps.overlaps #[t,t] #[tr]))
  (ht:P.underlying t=some (.slice e)) (hs:(P.info? e).map (·.size)=some size) (hbb:w.heap[b]? =some (.cells cb' Tb (0,0))) (hgg:w.heap[g]? =some (.cells cur T (0,0))) (hne:b≠g) (hc:cur.size≠0) :
  RunOp P env w (.call {callee:= .value (.func f),args:=xs,argTypes:=ts}) (.bool false):=
 r_extern (vs:= #[.slice (some ⟨b,0,none⟩) la ca, .slice (some ⟨g,off,none⟩) lb cb]) hv hf hname hb hn he
  (Lib.run_overlaps_apart w t tr e ht size (size_of hs) ⟨b,0,none⟩ ⟨g,off,none⟩ la ca lb cb hne Tb T cb'.size cur.size (by simp [World.shape?,hbb]) (by simp [World.shape?,hgg]) hc (by simp [World.frozen?,hbb]) (by simp [World.frozen?,hbb]))
end
section
open Go.ChangeMaps
variable {P:Program} {ops:Array Oper} {Q:Exit->Act->World->Prop} {a:Act} {w0 w w':World} {D:Sto} {ss:List Seg} {rest:List Oper} {o:Oper} {N:Nat} {env:Env} {K:Act->World->Prop}
end
theorem PClone_spec {w0 w:World} {D:Sto} {ss:List Seg} (I:Inv w0 D ss w) {vp:Value} {p:Pg} (hp:PgV D vp p) :
  Calls Tryz.prog 69 #[vp] w (Ret fun r w'=> ∃D' s ve,Le D D'/\r= .agg (pgCells p ve).toArray/\OR 2 EnR D' 146 ve p.ents s/\Inv w0 D' (s::ss) w'):=by
 obtain ⟨e1,rfl,he2,ho3⟩:=hp;have hlen_p:=ho3.len;obtain ⟨A4,c5,rfl,_⟩:=he2.slice;refine enter (N:=27) Tryz.func69 rfl rfl rfl ?_;intro a Z;refine wsr ?_;refine l_step rfl (f_box (cs:= #[_,_,_,_,_]) Z I rfl rfl rfl rfl rfl ?_);clear I Z a w;intro a b6 w Z I;refine l_step rfl (f_alloc (cs:= #[.int .i64 0, .int .i64 0, .int .i64 0, .int .i64 0, .slice none 0 0]) Z I rfl rfl rfl zer_34 rfl ?_);clear I Z a w;intro a b7 w Z I;refine go 8 Z I ?_;clear Z a;intro a Z;refine zs Z (p_len rfl rfl Tryz.underlying32) ?_;clear Z a;intro a Z;refine go 3 Z I ?_;clear Z a;intro a Z;replace I:=I.nilseg;refine c_loop (X:=Sto×Nat×Value×Seg) (fun x=> [(1,_),(2,_),(7,_),(8,_),(3,x.2.2.1),(9, .int .i64 (x.2.1:Nat))]) (fun x w=>x.2.1<=p.ents.length/\Le D x.1/\OR 2 EnR x.1 146 x.2.2.1 (p.ents.take x.2.1) x.2.2.2/\Inv w0 x.1 (x.2.2.2:: [(b7, .cells #[.int .i64 0, .int .i64 0, .int .i64 0, .int .i64 0, .slice none 0 0] 34 (0,0))]:: [(b6, .cells #[.int .i64 p.id, .int .i64 p.lsn, .int .i64 p.level, .int .i64 p.next, .slice A4 p.ents.length c5] 34 (0,0))]::ss) w) (fun x=>p.ents.length - x.2.1) (D,0, .slice none 0 0, []) (Z.pick [1,2,7,8,3,9]) ⟨Nat.zero_le _,Le.refl _,OR.nil _ _ _ _,I⟩ ?_;clear Z I a w;rintro ⟨D1,i,v,s⟩ a w Z ⟨hi,hD1,hO,I⟩;(try dsimp only at Z);(try dsimp only at hi);(try dsimp only at hD1);(try dsimp only at hO);(try dsimp only at I);obtain ⟨A8,c9,rfl,_⟩:=hO.slice;refine wsr ?_;refine cmx Z ?_ ?_
 ·intro hlt;replace hlt:=lss_t hlt;clear Z a;intro a Z;refine gc 8 Z ?_;obtain ⟨x_10,hx_10⟩: ∃y,(p.ents)[i]? =some y:=⟨_,List.getElem?_eq_getElem (by omega)⟩;obtain ⟨b_10,o_10,cs_10,T_10,fr_10,rfl,hb_10,hat_10⟩:=he2.at_ (by intro h0;rw [h0] at hx_10;simp at hx_10);obtain ⟨vs_10,hl_10,⟨k_10,v_10,rfl,hk_10,hv_10,hok_10⟩,hex_10,hsz_10,hce_10⟩:=hat_10.extract hx_10 (by omega);obtain ⟨A11,c12,rfl,_⟩:=hk_10.slice;obtain ⟨A13,c14,rfl,_⟩:=hv_10.slice;refine zs Z (p_indexAddr (m:=o_10+i*2) rfl rfl Tryz.underlying32 sz_146 (by omega) (by omega) (by simp)) ?_;clear Z a;intro a Z;refine zl Z (r_loadA rfl agg_146 (I.data _ _ (hD1 _ _ (hb_10))) hsz_10 hex_10) ?_;clear Z a;intro a Z;refine l_step rfl (f_alloc (cs:= #[.slice none 0 0, .slice none 0 0]) Z I rfl rfl rfl zer_146 rfl ?_);clear I Z a w;intro a b15 w Z I;refine l_step rfl (f_store (l:= [_,_]) (ss':=_::_) 0 Z I rfl rfl rfl rfl rfl sz_146 (by simp [Value.cells,Value.oneCell',pgCells,rcCells]) rfl rfl rfl ?_);clear I w;intro w I;refine wnt ?_;refine d_start [3,6,8,9] [1] (by kernel_rfl) I rfl rfl ?_;clear I w;intro w I;refine dp 0 Z rfl (p_move rfl) (fun _=>(I.dropS [1])) (listed':= #[true,false,false,false,false,false,false,false,false,false,false]) ?_;clear Z a;intro a Z;refine dp 1 Z rfl (p_fieldAddr (m:=0) rfl fo_146_0 rfl) (fun _=>(I.dropS [1])) ?_;clear Z a;intro a Z;refine dl 2 Z rfl (fun w hS=>f_load rfl scal_40 (Inv.seg 0 hS rfl) rfl) ((I.dropS [1])) ?_;clear Z a;intro a Z;refine dp 4 Z rfl (p_fieldAddr (m:=1) rfl fo_146_1 rfl) (fun _=>(I.dropS [1])) ?_;clear Z a;intro a Z;refine d_two 3 5 Z rfl rfl (by kernel_rfl) rfl rfl (listed':= #[true,true,true,true,true,false,false,false,false,false,false]) (listed'':= #[true,true,true,false,true,true,false,false,false,false,false]) rfl rfl ?_ ?_
  ·refine o_call Z rfl rfl rfl rfl ent_103 (Clone_data (bs:=x_10.1) I (hk_10.mono hD1) (by have:=hok_10.1;have:=hok_10.2;omega)) ?_;clear I Z a;rintro r w ⟨D16,hD17,I,hb18⟩ a Z;obtain ⟨A19,c20,rfl,_⟩:=hb18.slice;refine ⟨nl, ?_⟩;refine do1 5 Z rfl ?_;refine o_pure Z rfl rfl (f_load rfl scal_40 (I.seg 0 rfl) rfl) ?_;clear Z a;intro a Z;refine ⟨nl, ?_⟩;refine do1 6 Z rfl ?_;refine o_call Z rfl rfl rfl rfl ent_103 (Clone_data (bs:=x_10.2) I (hv_10.mono (hD1.trans hD17)) (by have:=hok_10.1;have:=hok_10.2;omega)) ?_;clear I Z a;rintro r w ⟨D21,hD22,I,hb23⟩ a Z;obtain ⟨A24,c25,rfl,_⟩:=hb23.slice;refine ⟨nl, ?_⟩;refine dp 7 Z rfl (f_build (vs:= [(0,_),(1,_)]) (l:= [_,_]) rfl built_146 rfl) nl ?_;clear Z a;intro a Z;refine do1 8 Z rfl ?_;refine f_lit (vs:= [(0,_)]) (l:= [_,_]) Z I rfl rfl rfl rfl Tryz.underlying32 zs_146 rfl rfl rfl ?_;clear I Z a w;intro a b26 w Z I;refine ⟨nl, ?_⟩;refine do1 9 Z rfl ?_;refine o_appendOR (R:=EnR) (el:=x_10) 2 0 Z I rfl rfl rfl rfl rfl Tryz.underlying32 zsb_146 rfl rfl rfl (OR.mono EnR.keeps hO (hD17.trans hD22)) rfl rfl (⟨_,_,rfl,(hb18.mono hD22),hb23,hok_10⟩) (by simp [Value.oneCell']) (by rw [List.length_take];omega) (by rw [List.length_take];omega) ?_;clear I Z a w;intro v27 s28 w hO29 I a Z;obtain ⟨A30,c31,rfl,_⟩:=hO29.slice;replace I:=I.erase 0;(try simp only [nrm,Value.cells] at I);refine ⟨nl, ?_⟩;refine dp 10 Z rfl (p_assign rfl) nl ?_;clear Z a;intro a Z;refine dnx ?_;refine gc 3 Z ?_;refine zs Z (p_arith (z:=((i+1:Nat):Int)) rfl rfl (add_z (by omega) (by omega) (by omega))) ?_;clear Z a;intro a Z;refine go 2 Z I ?_;clear Z a;intro a Z;obtain ⟨hlt1,hge1⟩:=List.getElem?_eq_some_iff.1 hx_10;replace I:=I.drop;exact ⟨(D21,i+1,_,_),Z.pick [1,2,7,8,3,9],⟨by show i+1<=_;omega,((hD1.trans hD17).trans hD22),by show OR 2 EnR D21 146 _ (p.ents.take (i+1)) _;rw [List.take_succ_eq_append_getElem hlt1,hge1];exact hO29,I⟩,by show p.ents.length - (i+1)<p.ents.length - i;omega⟩
  refine o_pure Z rfl rfl (f_load rfl scal_40 (I.seg 0 rfl) rfl) ?_;clear Z a;intro a Z;refine ⟨fun _=>(I.dropS [1]), ?_⟩;refine do1 3 Z rfl ?_;refine o_call Z rfl rfl rfl rfl ent_103 (Clone_data (bs:=x_10.1) I (hk_10.mono hD1) (by have:=hok_10.1;have:=hok_10.2;omega)) ?_;clear I Z a;rintro r w ⟨D32,hD33,I,hb34⟩ a Z;obtain ⟨A35,c36,rfl,_⟩:=hb34.slice;refine ⟨nl, ?_⟩;refine do1 6 Z rfl ?_;refine o_call Z rfl rfl rfl rfl ent_103 (Clone_data (bs:=x_10.2) I (hv_10.mono (hD1.trans hD33)) (by have:=hok_10.1;have:=hok_10.2;omega)) ?_;clear I Z a;rintro r w ⟨D37,hD38,I,hb39⟩ a Z;obtain ⟨A40,c41,rfl,_⟩:=hb39.slice;refine ⟨nl, ?_⟩;refine dp 7 Z rfl (f_build (vs:= [(0,_),(1,_)]) (l:= [_,_]) rfl built_146 rfl) nl ?_;clear Z a;intro a Z;refine do1 8 Z rfl ?_;refine f_lit (vs:= [(0,_)]) (l:= [_,_]) Z I rfl rfl rfl rfl Tryz.underlying32 zs_146 rfl rfl rfl ?_;clear I Z a w;intro a b42 w Z I;refine ⟨nl, ?_⟩;refine do1 9 Z rfl ?_;refine o_appendOR (R:=EnR) (el:=x_10) 2 0 Z I rfl rfl rfl rfl rfl Tryz.underlying32 zsb_146 rfl rfl rfl (OR.mono EnR.keeps hO (hD33.trans hD38)) rfl rfl (⟨_,_,rfl,(hb34.mono hD38),hb39,hok_10⟩) (by simp [Value.oneCell']) (by rw [List.length_take];omega) (by rw [List.length_take];omega) ?_;clear I Z a w;intro v43 s44 w hO45 I a Z;obtain ⟨A46,c47,rfl,_⟩:=hO45.slice;replace I:=I.erase 0;(try simp only [nrm,Value.cells] at I);refine ⟨nl, ?_⟩;refine dp 10 Z rfl (p_assign rfl) nl ?_;clear Z a;intro a Z;refine dnx ?_;refine gc 3 Z ?_;refine zs Z (p_arith (z:=((i+1:Nat):Int)) rfl rfl (add_z (by omega) (by omega) (by omega))) ?_;clear Z a;intro a Z;refine go 2 Z I ?_;clear Z a;intro a Z;obtain ⟨hlt1,hge1⟩:=List.getElem?_eq_some_iff.1 hx_10;replace I:=I.drop;exact ⟨(D37,i+1,_,_),Z.pick [1,2,7,8,3,9],⟨by show i+1<=_;omega,((hD1.trans hD33).trans hD38),by show OR 2 EnR D37 146 _ (p.ents.take (i+1)) _;rw [List.take_succ_eq_append_getElem hlt1,hge1];exact hO45,I⟩,by show p.ents.length - (i+1)<p.ents.length - i;omega⟩
 intro hlt;replace hlt:=lss_f hlt;clear Z a;intro a Z;refine go 11 Z I ?_;clear Z a;intro a Z;refine l_step rfl (f_store (l:= [_,_,_,_,_]) (ss':=_::_::_::_) 2 Z I rfl rfl rfl rfl rfl sz_32 (by simp [Value.cells,Value.oneCell',pgCells,rcCells]) rfl rfl rfl ?_);clear I w;intro w I;refine go 3 Z I ?_;clear Z a;intro a Z;refine l_step rfl (f_store (l:= [_,_,_,_,_]) (ss':=_::_::_) 1 Z I rfl rfl rfl rfl rfl sz_34 (by simp [Value.cells,Value.oneCell',pgCells,rcCells]) rfl rfl rfl ?_);clear I w;intro w I;refine gc 2 Z ?_;refine retc1 rfl Z rfl agg_34 (I.seg 1 rfl) rfl ?_;replace I:=(I.erase 2).erase 1;have htk:p.ents.take i=p.ents:=List.take_of_length_le (by omega);simp only [htk] at hO ⊢;exact ⟨_,_,_,hD1,rfl,hO,I⟩
theorem insertIdx_end {α:Type}: ∀(xs:List α) (e:α),xs.insertIdx xs.length e=xs++ [e]
 | [],e=>rfl
 |x::r,e=>by simp [insertIdx_end r e]
end Go.Proofs.YtikllmoofngjnaaGreatDoor.B
