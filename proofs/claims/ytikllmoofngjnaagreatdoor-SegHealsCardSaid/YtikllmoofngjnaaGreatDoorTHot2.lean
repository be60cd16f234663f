/- What functions of the program compute, each function once: steps over the model, and the plain law of it. -/
import Derived.Test.YtikllmoofngjnaaGreatDoorTBatch
import Derived.Laws.BytesString
import Derived.Test.YtikllmoofngjnaaGreatDoorTHot1
import Derived.Test.YtikllmoofngjnaaGreatDoorTFacts
namespace Go.Proofs.YtikllmoofngjnaaGreatDoor.B
open Go Go.Proofs
set_option linter.unusedVariables false
set_option linter.unusedSimpArgs false
set_option maxRecDepth 20000
set_option maxHeartbeats 8000000
section
variable {α:Type} {size:Nat} {R:Sto->List Value->α->Prop} {D:Sto}
theorem At.nil (cs:List Value):At size R D (([]:List Value)++cs).toArray 0 []:=fun i x hx=>by simp at hx
end
section
variable {P:Program} {a:Act} {w:World} {b:Frame} {k:List Item} {cs:List Frame} {Q:Exit->Act->World->Prop}
def noGoto (Q:Exit->Act->World->Prop):Exit->Act->World->Prop
 | .goto _,_,_=>False
 |e,a,w=>Q e a w
end
section
variable {P:Program} {ops:Array Oper} {Q:Exit->Act->World->Prop} {a:Act} {w0 w w':World} {D:Sto} {ss:List Seg} {o:Oper} {N:Nat} {env:Env} {K:Act->World->Prop}
def strOf (bs:List Nat):ByteArray:=(bs.map (fun x=>((x:Nat):Int))).foldl (fun r n=>r.push (UInt8.ofNat n.toNat)) ByteArray.empty
theorem r_toString {src dst e:TypeId} {x:Operand} {v:Value} {bs:List Nat} (I:Inv w0 D ss w) (hx:ev env x=some v) (hr:RB D v bs) (hs:P.underlying src=some (.slice e)) (he:P.underlying e=some (.int .u8)) (hd:P.underlying dst=some .string) :
  RunOp P env w (.convert src dst x) (.string (strOf bs)):=fun _ a o Z ho=>by
 obtain ⟨A,c,rfl,hc,hlt,hA,hat⟩:=hr;have h1:=run_convert_bytes_string (P:=P) w src dst e A bs.length c hs he hd;have h2:(Conv.bytesToString (.slice A bs.length c)).run P w= .ok (.string (strOf bs)) w:=by
  cases bs with
  |nil=>
   cases A with
   |none=>rfl
   |some ad=>
    have:=run_bytesToString (P:=P) w ad 0 c [] (by simpa using run_loadCells_list (P:=P) w ad [] (by simp));simpa [strOf] using this
  |cons y r=>
   obtain ⟨b,off,cs,T,fr,rfl,h7,h8⟩:=hat (by simp);have hld:=run_loadCells_list (P:=P) w ⟨b,off,none⟩ (((y::r).map (fun x=>((x:Nat):Int))).map (Value.int .u8)) (fun j u hu=>by
    rw [addr_add,cell_of (I.data _ _ h7)];simp only [List.map_map,List.getElem?_map,Option.map_eq_some_iff] at hu;obtain ⟨z,hz,rfl⟩:=hu;exact h8 j z hz)
   simp only [List.length_map] at hld;exact run_bytesToString (P:=P) w ⟨b,off,none⟩ _ c _ hld
 simp [execOp,ho,Z.eval hx,h1,h2]
theorem p_strEql {t t':TypeId} {x y:Operand} {s u:ByteArray} {e:Bool} (hx:ev env x=some (.string s)) (hy:ev env y=some (.string u)) (he:(s.toList==u.toList)=e):PureOp P env (.binOp .eql t x y t') (.bool e):=fun _ a w o Z ho=>by
 have h1:=Z.eval hx;have h2:=Z.eval hy;subst he;simp [execOp,ho,h1,h2,eqGuard,binOp,Op.stringOp,Sem.run]
end
theorem Sto.put_mem (D:Sto): ∀(s:Seg) (p:Nat×Obj),p∈s->(s.map (·.1)).Nodup->Sto.put D s p.1=some p.2
 |(b,o)::r,p,h,hn=>by
  rw [List.map_cons,List.nodup_cons] at hn;rcases List.mem_cons.1 h with rfl|h
  ·simp [Sto.put]
  have h2:p.1∈r.map (·.1):=List.mem_map_of_mem h;have:p.1≠b:=fun e=>hn.1 (by show b∈r.map (·.1);rw [<-e];exact h2);simp only [Sto.put,if_neg this];exact Sto.put_mem D r p h hn.2
theorem Inv.unshut {w0 w w1:World} {D:Sto} {ss ss0:List Seg} {s:Seg} (h0:Inv w0 D (s::ss0) w1) (h:Inv w0 (Sto.put D s) ss w):Inv w0 D (s::ss) w:=by
 have ha: ∀p∈s,D p.1=none:=fun p hp=>h0.apart p (by simp [hp]);have hn:(s.map (·.1)).Nodup:=by have:=h0.nodup;simp only [List.flatten_cons,List.map_append] at this;exact (List.nodup_append.1 this).1
 have hle:=Le.put ha;refine ⟨h.os,h.tape,h.output,h.size,fun b o hb=>h.data b o (hle b o hb),fun p hp=> ?_,fun p hp=> ?_, ?_⟩
 ·rw [List.flatten_cons,List.mem_append] at hp;rcases hp with hp|hp
  ·exact h.data _ _ (Sto.put_mem D s p hp hn)
  exact h.own p hp
 ·rw [List.flatten_cons,List.mem_append] at hp;rcases hp with hp|hp
  ·exact ha p hp
  have:=h.apart p hp;cases hd:D p.1 with
  |none=>rfl
  |some o=>rw [hle _ _ hd] at this;cases this
 rw [List.flatten_cons,List.map_append];refine List.nodup_append.2 ⟨hn,h.nodup,fun a h1 b h2 he=> ?_⟩;obtain ⟨p,hp,rfl⟩:=List.mem_map.1 h1;obtain ⟨q,hq,rfl⟩:=List.mem_map.1 h2;have h3:=h.apart q hq;rw [<-he,Sto.put_mem D s p hp hn] at h3;cases h3
theorem lend {α:Type} {size:Nat} {R:Sto->List Value->α->Prop} {P:Program} {f:FuncId} {args:Array Value} {w0 w:World} {D:Sto} {ss:List Seg} {s:Seg} {T:Nat} {v:Value} {xs:List α} {F:Value->Prop} (I:Inv w0 D (s::ss) w) (hR:Keeps R) (hO:OR size R D T v xs s)
  (h: ∀D',Le D D'->Inv w0 D' ss w->DR size R D' v xs->Calls P f args w (Ret fun r w'=>F r/\Inv w0 D' ss w')):Calls P f args w (Ret fun r w'=>F r/\Inv w0 D (s::ss) w'):=
 (h _ I.le_shut I.shut (hO.shut hR I.le_shut)).mono fun _ _ h=>h.imp fun _ _ ⟨h1,h2⟩=>⟨h1,I.unshut h2⟩
theorem Equal1_spec {w0 w:World} {D:Sto} {ss:List Seg} (I:Inv w0 D ss w) {va vb:Value} {ka:List Nat} (ha:RB D va ka) (hb:RB D vb ka) :
  Calls Tryz.prog 195 #[va,vb] w (Ret fun r w'=>r= .bool true/\Inv w0 D ss w'):=by
 obtain ⟨A1,c2,rfl,_⟩:=ha.slice;obtain ⟨A3,c4,rfl,_⟩:=hb.slice;refine enter (N:=10) Tryz.func195 rfl rfl rfl ?_;intro a Z;refine go 5 Z I ?_;clear Z a;intro a Z;refine zl Z (r_toString I rfl ha Tryz.underlying40 Tryz.underlying5 Tryz.underlying9) ?_;clear Z a;intro a Z;refine zm Z ?_;clear Z a;intro a Z;refine zl Z (r_toString I rfl hb Tryz.underlying40 Tryz.underlying5 Tryz.underlying9) ?_;clear Z a;intro a Z;refine zs Z (p_strEql rfl rfl (beq_self_eq_true _)) ?_;clear Z a;intro a Z;refine go 3 Z I ?_;clear Z a;intro a Z;refine rt1 Z ?_;exact ⟨rfl,I⟩
theorem RSame1_spec {w0 w:World} {D:Sto} {ss:List Seg} (I:Inv w0 D ss w) {v1 v2:Value} {x:Rc} (h1:RcV D v1 x) (h2:RcV D v2 x) :
  Calls Tryz.prog 156 #[v1,v2] w (Ret fun r w'=>r= .bool true/\Inv w0 D ss w'):=by
 obtain ⟨k1,v2,rfl,hk3,hv4,ho5⟩:=h1;obtain ⟨A6,c7,rfl,_⟩:=hk3.slice;obtain ⟨A8,c9,rfl,_⟩:=hv4.slice;obtain ⟨k10,v11,rfl,hk12,hv13,ho14⟩:=h2;obtain ⟨A15,c16,rfl,_⟩:=hk12.slice;obtain ⟨A17,c18,rfl,_⟩:=hv13.slice;refine enter (N:=73) Tryz.func156 rfl rfl rfl ?_;intro a Z;refine wsr ?_;refine l_step rfl (f_box (cs:= #[_,_,_,_,_,_,_,_,_,_]) Z I rfl rfl rfl rfl rfl ?_);clear I Z a w;intro a b19 w Z I;refine l_step rfl (f_box (cs:= #[_,_,_,_,_,_,_,_,_,_]) Z I rfl rfl rfl rfl rfl ?_);clear I Z a w;intro a b20 w Z I;refine go 7 Z I ?_;clear Z a;intro a Z;refine zs Z (p_cmp rfl rfl (eql_y (rfl))) ?_;clear Z a;intro a Z;refine go 5 Z I ?_;clear Z a;intro a Z;refine gs Z (p_cmp rfl rfl (eql_y (rfl))) ?_;clear Z a;intro a Z;refine go 6 Z I ?_;clear Z a;intro a Z;refine gs Z (p_cmp rfl rfl (eql_y (rfl))) ?_;clear Z a;intro a Z;refine go 6 Z I ?_;clear Z a;intro a Z;refine gs Z (p_cmp rfl rfl (eql_y (rfl))) ?_;clear Z a;intro a Z;refine go 6 Z I ?_;clear Z a;intro a Z;refine gs Z (p_cmp rfl rfl (eql_y (rfl))) ?_;clear Z a;intro a Z;refine go 6 Z I ?_;clear Z a;intro a Z;refine gs Z (p_cmp rfl rfl (eql_y (rfl))) ?_;clear Z a;intro a Z;refine go 6 Z I ?_;clear Z a;intro a Z;refine gs Z (p_cmp rfl rfl (eql_y (rfl))) ?_;clear Z a;intro a Z;refine go 6 Z I ?_;clear Z a;intro a Z;refine gs Z (p_boolEq (b:=true) Tryz.underlying4 rfl rfl (by rw [beq_self_eq_true];rfl)) ?_;clear Z a;intro a Z;refine go 6 Z I ?_;clear Z a;intro a Z;refine l_go Z rfl (o_call Z rfl rfl rfl rfl ent_195 (Equal1_spec I hk3 hk12) ?_);clear I Z a;rintro r w ⟨rfl,I⟩ a Z;refine go 6 Z I ?_;clear Z a;intro a Z;refine l_go Z rfl (o_call Z rfl rfl rfl rfl ent_195 (Equal1_spec I hv4 hv13) ?_);clear I Z a;rintro r w ⟨rfl,I⟩ a Z;refine go 4 Z I ?_;clear Z a;intro a Z;refine rt1 Z ?_;exact ⟨rfl,I.drop.drop⟩
theorem has_spec {w0 w:World} {D:Sto} {ss:List Seg} (I:Inv w0 D ss w) (x:Sp) (n:Int) :
  Calls Tryz.prog 184 #[.agg #[.int .i64 x.epoch, .int .i64 x.from_, .int .i64 x.to_], .int .i64 n] w (Ret fun r w'=>r= .bool (decide (x.from_<n/\n<=x.to_))/\Inv w0 D ss w'):=by
 refine enter (N:=15) Tryz.func184 rfl rfl rfl ?_;intro a Z;refine wsr ?_;refine l_step rfl (f_box (cs:= #[_,_,_]) Z I rfl rfl rfl rfl rfl ?_);clear I Z a w;intro a b1 w Z I;refine go 6 Z I ?_;clear Z a;intro a Z;refine cmx Z ?_ ?_
 ·intro q1;replace q1:=lss_t q1;clear Z a;intro a Z;refine go 4 Z I ?_;clear Z a;intro a Z;refine cgx Z ?_ ?_
  ·intro q2;replace q2:=leq_t q2;clear Z a;intro a Z;refine go 4 Z I ?_;clear Z a;intro a Z;refine rt1 Z ?_;exact ⟨by congr 1;rw [eq_comm,decide_eq_true_eq];omega,I.drop⟩
  intro q2;replace q2:=leq_f q2;clear Z a;intro a Z;refine go 4 Z I ?_;clear Z a;intro a Z;refine rt1 Z ?_;exact ⟨by congr 1;rw [eq_comm,decide_eq_false_iff_not];omega,I.drop⟩
 intro q1;replace q1:=lss_f q1;clear Z a;intro a Z;refine go 9 Z I ?_;clear Z a;intro a Z;refine rt1 Z ?_;exact ⟨by congr 1;rw [eq_comm,decide_eq_false_iff_not];omega,I.drop⟩
theorem dead1_spec {w0 w:World} {D:Sto} {ss:List Seg} {be bn Te Tn:Nat} {e n:Int} (I:Inv w0 D ([(be, .cells #[.int .i64 e] Te (0,0))]:: [(bn, .cells #[.int .i64 n] Tn (0,0))]::ss) w) (x:Sp) :
  Calls Tryz.prog 183 #[.agg #[.int .i64 x.epoch, .int .i64 x.from_, .int .i64 x.to_], .pointer (some ⟨be,0,none⟩), .pointer (some ⟨bn,0,none⟩)] w (Ret fun r w'=>r= .bool (decide (e<x.epoch/\x.from_<n/\n<=x.to_))/\Inv w0 D ([(be, .cells #[.int .i64 e] Te (0,0))]:: [(bn, .cells #[.int .i64 n] Tn (0,0))]::ss) w'):=by
 refine enter (N:=14) Tryz.func183 rfl rfl rfl ?_;intro a Z;refine wsr ?_;refine l_step rfl (f_box (cs:= #[_,_,_]) Z I rfl rfl rfl rfl rfl ?_);clear I Z a w;intro a b1 w Z I;refine go 6 Z I ?_;clear Z a;intro a Z;refine cmx Z ?_ ?_
 ·intro q1;replace q1:=gtr_t q1;clear Z a;intro a Z;refine zm Z ?_;clear Z a;intro a Z;refine gl Z (f_loadA (vs:= [_,_,_]) rfl agg_131 (I.seg 0 rfl) rfl rfl) ?_;clear Z a;intro a Z;refine gl Z (f_load rfl scal_2 (I.seg 2 rfl) rfl) ?_;clear Z a;intro a Z;refine l_go Z rfl (o_call Z rfl rfl rfl rfl ent_184 (has_spec I x n) ?_);clear I Z a;rintro r w ⟨rfl,I⟩ a Z;obtain ⟨bb2,hbb3⟩: ∃b,decide (x.from_<n/\n<=x.to_)=b:=⟨_,rfl⟩;rw [hbb3] at Z;replace hbb3:bb2=true↔(x.from_<n/\n<=x.to_):=by rw [<-hbb3];exact decide_eq_true_iff
  refine go 4 Z I ?_;clear Z a;intro a Z;refine rt1 Z ?_;exact ⟨by congr 1;rw [Bool.eq_iff_iff,decide_eq_true_eq,hbb3];omega,I.drop⟩
 intro q1;replace q1:=gtr_f q1;clear Z a;intro a Z;refine go 8 Z I ?_;clear Z a;intro a Z;refine rt1 Z ?_;exact ⟨by congr 1;rw [eq_comm,decide_eq_false_iff_not];omega,I.drop⟩
theorem dead1_call {w0 w:World} {D:Sto} {ss:List Seg} {be bn Te Tn:Nat} {e n:Int} (I:Inv w0 D ([(be, .cells #[.int .i64 e] Te (0,0))]:: [(bn, .cells #[.int .i64 n] Tn (0,0))]::ss) w) (x:Sp) :
  Calls Tryz.prog 183 (#[]++ #[.agg #[.int .i64 x.epoch, .int .i64 x.from_, .int .i64 x.to_]]++ #[.pointer (some ⟨be,0,none⟩), .pointer (some ⟨bn,0,none⟩)]) w (Ret fun r w'=>r= .bool (decide (e<x.epoch/\x.from_<n/\n<=x.to_))/\Inv w0 D ([(be, .cells #[.int .i64 e] Te (0,0))]:: [(bn, .cells #[.int .i64 n] Tn (0,0))]::ss) w'):=by
 have:=dead1_spec I x;simpa using this
def deadP (e n:Int) (x:Sp):Bool:=decide (e<x.epoch/\x.from_<n/\n<=x.to_)
theorem IxDead_spec {w0 w:World} {D:Sto} {ss:List Seg} {be bn Te Tn:Nat} {e n:Int} (I:Inv w0 D ([(be, .cells #[.int .i64 e] Te (0,0))]:: [(bn, .cells #[.int .i64 n] Tn (0,0))]::ss) w) {v:Value} {l:List Sp} (hl:DR 3 SpR D v l) (hlm:l.length<=1000000) :
  Calls Tryz.prog 208 #[v, .func (.func 183) #[] #[.pointer (some ⟨be,0,none⟩), .pointer (some ⟨bn,0,none⟩)]] w (Ret fun r w'=> ∃z,r= .int .i64 z/\decide (0<=z)=l.any (deadP e n)/\Inv w0 D ([(be, .cells #[.int .i64 e] Te (0,0))]:: [(bn, .cells #[.int .i64 n] Tn (0,0))]::ss) w'):=by
 obtain ⟨A1,c2,rfl,_⟩:=hl.slice;refine enter (N:=19) Tryz.func208 rfl rfl rfl ?_;intro a Z;refine go 6 Z I ?_;clear Z a;intro a Z;refine zs Z (p_len rfl rfl Tryz.underlying31) ?_;clear Z a;intro a Z;refine go 3 Z I ?_;clear Z a;intro a Z;refine c_loop (X:=Nat) (fun x=> [(0,_),(1,_),(7,_),(8, .int .i64 (x:Nat))]) (fun x w=>x<=l.length/\(∀(j:Nat) (y:Sp),j<x->l[j]? =some y->deadP e n y=false)/\Inv w0 D ([(be, .cells #[.int .i64 e] Te (0,0))]:: [(bn, .cells #[.int .i64 n] Tn (0,0))]::ss) w) (fun x=>l.length - x) 0 (Z.pick [0,1,7,8]) ⟨Nat.zero_le _,fun j y hj=>absurd hj (Nat.not_lt_zero _),I⟩ ?_;clear Z I a w;rintro i a w Z ⟨hi,hno,I⟩;(try dsimp only at Z);(try dsimp only at hi);(try dsimp only at hno);(try dsimp only at I);refine wsr ?_;refine cmx Z ?_ ?_
 ·intro hlt;replace hlt:=lss_t hlt;clear Z a;intro a Z;refine go 15 Z I ?_;clear Z a;intro a Z;obtain ⟨x_3,hx_3⟩: ∃z9,(l)[i]? =some z9:=⟨_,List.getElem?_eq_getElem (by omega)⟩;obtain ⟨b_3,o_3,cs_3,T_3,fr_3,rfl,hb_3,hat_3⟩:=hl.at_ (by intro h0;rw [h0] at hx_3;simp at hx_3);obtain ⟨vs_3,hl_3,hvs_3,hex_3,hsz_3,hce_3⟩:=hat_3.extract hx_3 (by omega);obtain rfl:vs_3= [.int .i64 x_3.epoch, .int .i64 x_3.from_, .int .i64 x_3.to_]:=hvs_3;refine zs Z (p_indexAddr (m:=o_3+i*3) rfl rfl Tryz.underlying31 sz_131 (by omega) (by omega) (by simp)) ?_;clear Z a;intro a Z;refine zl Z (r_loadA rfl agg_131 (I.data _ _ (hb_3)) hsz_3 hex_3) ?_;clear Z a;intro a Z;refine l_step rfl (o_callv Z rfl rfl rfl rfl rfl rfl ent_183 (dead1_call I x_3) ?_);clear I Z a;rintro r w ⟨rfl,I⟩ a Z;obtain ⟨bb4,hbb5⟩: ∃b,deadP e n x_3=b:=⟨_,rfl⟩;replace Z:EnvOk 19 ((16, .bool (deadP e n x_3))::_) a:=Z;rw [hbb5] at Z;replace hbb5:bb4=true↔deadP e n x_3=true:=by rw [hbb5]
  refine wnt ?_;rcases Bool.eq_false_or_eq_true bb4 with rfl|rfl
  ·replace hbb5:=iff_t hbb5;refine go 11 Z I ?_;clear Z a;intro a Z;refine rt1 Z ?_;exact ⟨_,rfl,by rw [List.any_eq_true.2 ⟨x_3,List.mem_of_getElem? hx_3,hbb5⟩];exact decide_eq_true (by omega),I⟩
  replace hbb5:=iff_f hbb5;refine gc 5 Z ?_;refine zs Z (p_arith (z:=((i+1:Nat):Int)) rfl rfl (add_z (by omega) (by omega) (by omega))) ?_;clear Z a;intro a Z;refine go 2 Z I ?_;clear Z a;intro a Z;exact ⟨i+1,Z.pick [0,1,7,8],⟨by show i+1<=l.length;omega,(by intro j y hj hy;rcases Nat.lt_or_eq_of_le (Nat.le_of_lt_succ hj) with q|rfl;exact hno j y q hy;rw [hx_3] at hy;injection hy with hy;rw [<-hy];exact Bool.eq_false_iff.2 hbb5),I⟩,by show l.length - (i+1)<l.length - i;omega⟩
 intro hlt;replace hlt:=lss_f hlt;clear Z a;intro a Z;refine go 12 Z I ?_;clear Z a;intro a Z;refine rt1 Z ?_;exact ⟨_,rfl,by rw [List.any_eq_false.2 (fun y hy=>by obtain ⟨j,hj,he⟩:=List.getElem_of_mem hy;rw [hno j y (by omega) (by rw [List.getElem?_eq_getElem hj,he])];exact Bool.false_ne_true)];decide,I⟩
theorem CoDead_spec {w0 w:World} {D:Sto} {ss:List Seg} {be bn Te Tn:Nat} {e n:Int} (I:Inv w0 D ([(be, .cells #[.int .i64 e] Te (0,0))]:: [(bn, .cells #[.int .i64 n] Tn (0,0))]::ss) w) {v:Value} {l:List Sp} (hl:DR 3 SpR D v l) (hlm:l.length<=1000000) :
  Calls Tryz.prog 182 #[v, .func (.func 183) #[] #[.pointer (some ⟨be,0,none⟩), .pointer (some ⟨bn,0,none⟩)]] w (Ret fun r w'=>r= .bool (l.any (deadP e n))/\Inv w0 D ([(be, .cells #[.int .i64 e] Te (0,0))]:: [(bn, .cells #[.int .i64 n] Tn (0,0))]::ss) w'):=by
 obtain ⟨A1,c2,rfl,_⟩:=hl.slice;refine enter (N:=9) Tryz.func182 rfl rfl rfl ?_;intro a Z;refine go 6 Z I ?_;clear Z a;intro a Z;refine l_step rfl (o_call Z rfl rfl rfl rfl ent_208 (IxDead_spec I hl hlm) ?_);clear I Z a;rintro r w ⟨z,rfl,hz,I⟩ a Z;refine cmx Z ?_ ?_
 ·intro q1;replace q1:=geq_t q1;clear Z a;intro a Z;refine go 3 Z I ?_;clear Z a;intro a Z;refine rt1 Z ?_;exact ⟨by rw [<-hz];congr 1;rw [eq_comm,decide_eq_true_eq];omega,I⟩
 intro q1;replace q1:=geq_f q1;clear Z a;intro a Z;refine go 3 Z I ?_;clear Z a;intro a Z;refine rt1 Z ?_;exact ⟨by rw [<-hz];congr 1;rw [eq_comm,decide_eq_false_iff_not];omega,I⟩
theorem Dead_spec {w0 w:World} {D:Sto} {ss:List Seg} (I:Inv w0 D ss w) {v:Value} {l:List Sp} (hl:DR 3 SpR D v l) (hlm:l.length<=1000000) (n e:Int) :
  Calls Tryz.prog 141 #[v, .int .i64 n, .int .i64 e] w (Ret fun r w'=>r= .bool (deadS l n e)/\Inv w0 D ss w'):=by
 obtain ⟨A1,c2,rfl,_⟩:=hl.slice;refine enter (N:=10) Tryz.func141 rfl rfl rfl ?_;intro a Z;refine wsr ?_;refine l_step rfl (f_box (cs:= #[_]) Z I rfl rfl rfl rfl rfl ?_);clear I Z a w;intro a b3 w Z I;refine l_step rfl (f_box (cs:= #[_]) Z I rfl rfl rfl rfl rfl ?_);clear I Z a w;intro a b4 w Z I;refine go 4 Z I ?_;clear Z a;intro a Z;refine zs Z (p_func (vs:= #[]) (us:= #[_,_]) rfl rfl) ?_;clear Z a;intro a Z;refine l_step rfl (o_call Z rfl rfl rfl rfl ent_182 (CoDead_spec I hl hlm) ?_);clear I Z a;rintro r w ⟨rfl,I⟩ a Z;refine go 3 Z I ?_;clear Z a;intro a Z;refine rt1 Z ?_;exact ⟨rfl,I.drop.drop⟩
end Go.Proofs.YtikllmoofngjnaaGreatDoor.B
