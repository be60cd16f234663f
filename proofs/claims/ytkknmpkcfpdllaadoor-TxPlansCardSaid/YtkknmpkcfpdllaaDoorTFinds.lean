/- What functions of the program compute, each function once: steps over the model, and the plain law of it. -/
import Derived.Test.YtkknmpkcfpdllaaDoorTTreeRel
import Derived.Test.YtkknmpkcfpdllaaDoorSLogB
import Derived.Test.YtkknmpkcfpdllaaDoorTScan
import Derived.Test.YtkknmpkcfpdllaaDoorTFirst
import Derived.Test.YtkknmpkcfpdllaaDoorTFacts
import Derived.Test.YtkknmpkcfpdllaaDoorTTree6
import Derived.Test.YtkknmpkcfpdllaaDoorTTreeLaid
namespace Go.Proofs.YtkknmpkcfpdllaaDoor.B
open Go Go.Proofs
set_option linter.unusedVariables false
set_option linter.unusedSimpArgs false
set_option maxRecDepth 20000
set_option maxHeartbeats 8000000
def only (f:Int->Option Pg) (ids:List Int):Int->Option Pg:=fun id=>if id∈ids then f id else none
theorem Inv.drop_at {w0 w:World} {D:Sto} {ss:List Seg} {s:Seg} (i:Nat) (h:Inv w0 D (s::ss) w):Inv w0 D (s::ss.eraseIdx (i - 1)) w:=by
 have:=(h.put_back 0).erase 0;have h2:=h.perm (ss':=ss++ [s]) (by simp [List.flatten_append];exact List.perm_append_comm);have h3:Inv w0 D (s::ss.eraseIdx (i - 1)) w:=by
  cases hi:ss[i - 1]? with
  |none=>rw [List.eraseIdx_of_length_le (List.getElem?_eq_none_iff.1 hi)];exact h
  |some q=>
   have hp:=(erase_perm (i - 1) ss hi).flatten;have h4:Inv w0 D (q::s::ss.eraseIdx (i - 1)) w:=h.perm (by
    simp only [List.flatten_cons] at hp ⊢;refine List.Perm.trans ?_ (List.Perm.append_left s hp);rw [<-List.append_assoc,<-List.append_assoc];exact List.Perm.append_right _ List.perm_append_comm)
   exact h4.drop
 exact h3
theorem UBytes_spec {w0 w:World} {D:Sto} {ss:List Seg} (I:Inv w0 D ss w) {ad:Nat->Addr} (g105:GlobIs D 0 (errV ad 105)) (tx n:Int) {vk vv:Value} {key value:List Nat} (had:Bool) (hk:RB D vk key) (hv:RB D vv value) (hm:value.length<=140737488000000) :
  Calls Tryd.prog 113 #[.agg #[.int .i64 tx, .int .i64 n,vk, .bool had,vv]] w (Ret fun r w'=> ∃D',Le D D'/\((∃v s,(⟨tx,n,key,had,value⟩:Ent).Ok/\r= .tuple #[v, .nilIface]/\Inv w0 D' (s::ss) w'/\OB v (⟨tx,n,key,had,value⟩:Ent).enc s)\/(¬(⟨tx,n,key,had,value⟩:Ent).Ok/\r= .tuple #[.slice none 0 0,errV ad 105]/\Inv w0 D' ss w'))):=by
 obtain ⟨Ak,ck,rfl,_⟩:=hk.slice;obtain ⟨Av,cv,rfl,_⟩:=hv.slice;have hhad:had=true↔had=true:=Iff.rfl;refine enter (N:=55) Tryd.func113 rfl rfl rfl ?_;intro a Z;refine wsr ?_;refine l_step rfl (f_box (cs:= #[_,_,_,_,_]) Z I rfl rfl rfl rfl rfl ?_);clear I Z a w;intro a b1 w Z I;refine go 9 Z I ?_;clear Z a;intro a Z;refine l_step rfl (o_call Z rfl rfl rfl rfl ent_112 (Key_spec I g105 tx n) ?_);clear I Z a;rintro r w h a Z;rcases h with ⟨v4,D2,h1,rfl,hD3,I,hv5⟩|⟨h1,rfl,I⟩
 ·obtain ⟨A6,c7,rfl,_⟩:=hv5.slice;refine go 17 Z I ?_;clear Z a;intro a Z;refine l_step rfl (o_call Z rfl rfl rfl rfl ent_59 (UserKey_spec I (g105.mono hD3) (hk.mono hD3)) ?_);clear I Z a;rintro r w h a Z;rcases h with ⟨v10,D8,h2,h2_,rfl,hD9,I,hv11⟩|⟨h2,rfl,I⟩
  ·obtain ⟨A12,c13,rfl,_⟩:=hv11.slice;refine go 17 Z I ?_;clear Z a;intro a Z;refine zs Z (p_len rfl rfl Tryd.underlying34) ?_;clear Z a;intro a Z;refine l_step rfl (o_cmp Z rfl rfl rfl rfl rfl rfl ?_ ?_)
   ·intro h3;replace h3:=gtr_t h3;clear Z a;intro a Z;refine go 13 Z I ?_;clear Z a;intro a Z;refine wp_seq ?_;refine d_start [] [] (by kernel_rfl) I rfl rfl ?_;clear I w;intro w I;obtain ⟨T_14,fr_14,hg_14⟩:=g105;refine dl 0 Z rfl (fun w hS=>f_load rfl scal_31 (Inv.data hS _ _ ((hD3.trans hD9) _ _ (hg_14))) rfl) (I) (listed':= #[true,false,false]) ?_;clear Z a;intro a Z;refine dp 1 Z rfl (p_assign rfl) (fun _=>I) ?_;clear Z a;intro a Z;refine dp 2 Z rfl (p_assign rfl) (fun _=>I) ?_;clear Z a;intro a Z;refine d_done (by kernel_rfl) ?_;refine gc 3 Z ?_;refine ret2 rfl Z rfl rfl ?_;refine ⟨_,(hD3.trans hD9), .inr ⟨?_,rfl,I.drop⟩⟩;rintro ⟨q1,q2,q3,q4⟩;dsimp only at q1 q2 q3 q4
    first|omega|(rcases q4 with q4|q4;cases q4;omega)
   intro h3;replace h3:=gtr_f h3;clear Z a;intro a Z;refine go 3 Z I ?_;clear Z a;intro a Z;rcases Bool.eq_false_or_eq_true had with rfl|rfl
   ·replace hhad:=iff_t hhad;refine gs Z (p_not rfl) ?_;clear Z a;intro a Z;refine go 23 Z I ?_;clear Z a;intro a Z;refine wp_seq ?_;have hz1:(putZ (key.length:Nat)).length=1:=by rw [putZ_small (by omega) (by omega)];rfl
    have hz2:(putZ 1).length=1:=by rw [putZ_small (by omega) (by omega)];rfl
    refine d_start [] [] (by kernel_rfl) I rfl rfl ?_;clear I w;intro w I;refine dp 0 Z rfl (p_fieldAddr (m:=2) rfl fo_132_2 rfl) (fun _=>I) (listed':= #[true,false,false,false,false,false,false,false,false,false]) ?_;clear Z a;intro a Z;refine dl 1 Z rfl (fun w hS=>f_load rfl scal_34 (Inv.seg 0 hS rfl) rfl) (I) ?_;clear Z a;intro a Z;refine dp 3 Z rfl (p_move rfl) (fun _=>I) ?_;clear Z a;intro a Z;refine dp 5 Z rfl (p_fieldAddr (m:=4) rfl fo_132_4 rfl) (fun _=>I) ?_;clear Z a;intro a Z;refine dl 6 Z rfl (fun w hS=>f_load rfl scal_34 (Inv.seg 0 hS rfl) rfl) (I) ?_;clear Z a;intro a Z;refine do1 2 Z rfl ?_;refine o_call Z rfl rfl rfl rfl ent_121 (PutBytes_data I (RB.nil _) (hk.mono (hD3.trans hD9)) (by simp;omega)) ?_;clear I Z a;rintro r w ⟨D15,hD16,I,hb17⟩ a Z;obtain ⟨A18,c19,rfl,_⟩:=hb17.slice;refine ⟨fun _=>(Inv.weaken I hD16), ?_⟩;refine do1 4 Z rfl ?_;refine o_call Z rfl rfl rfl rfl ent_122 (Put_data (m:=1) I hb17 (by simp only [List.length_append,List.length_nil,hz1];omega) (by omega) (by omega)) ?_;clear I Z a;rintro r w ⟨D20,hD21,I,hb22⟩ a Z;obtain ⟨A23,c24,rfl,_⟩:=hb22.slice;refine ⟨fun _=>(Inv.weaken I (hD16.trans hD21)), ?_⟩;refine do1 7 Z rfl ?_;refine o_call Z rfl rfl rfl rfl ent_121 (PutBytes_spec I hb22 (hv.mono (((hD3.trans hD9).trans hD16).trans hD21)) (by simp only [List.length_append,List.length_nil,hz1];omega)) ?_;clear I Z a;rintro r w ⟨s28,hR25,I⟩ a Z;obtain ⟨A26,c27,rfl,_⟩:=Row.slice hR25;refine ⟨fun _=>(Inv.weaken (I.dropS [0]) (hD16.trans hD21)), ?_⟩;refine dp 8 Z rfl (p_assign rfl) (fun _=>(Inv.weaken (I.dropS [0]) (hD16.trans hD21))) ?_;clear Z a;intro a Z;refine dp 9 Z rfl (p_assign rfl) (fun _=>(Inv.weaken (I.dropS [0]) (hD16.trans hD21))) ?_;clear Z a;intro a Z;refine d_done (by kernel_rfl) ?_;refine gc 2 Z ?_;refine ret2 rfl Z rfl rfl ?_;refine ⟨_,(((hD3.trans hD9).trans hD16).trans hD21), .inl ⟨_,_,⟨by dsimp only;omega,by dsimp only;omega,by dsimp only;omega, .inl rfl⟩,rfl,I.drop_at 1,Row.cast hR25 (by simp [Ent.enc,hadZ]) (by simp [Ent.enc,hadZ];try omega)⟩⟩
   replace hhad:=iff_f hhad;refine gs Z (p_not rfl) ?_;clear Z a;intro a Z;refine go 3 Z I ?_;clear Z a;intro a Z;refine gs Z (p_len rfl rfl Tryd.underlying34) ?_;clear Z a;intro a Z;refine l_go Z rfl (o_cmp Z rfl rfl rfl rfl rfl rfl ?_ ?_)
   ·intro h4;replace h4:=gtr_t h4;clear Z a;intro a Z;refine go 4 Z I ?_;clear Z a;intro a Z;refine wp_seq ?_;refine d_start [] [] (by kernel_rfl) I rfl rfl ?_;clear I w;intro w I;obtain ⟨T_29,fr_29,hg_29⟩:=g105;refine dl 0 Z rfl (fun w hS=>f_load rfl scal_31 (Inv.data hS _ _ ((hD3.trans hD9) _ _ (hg_29))) rfl) (I) (listed':= #[true,false,false]) ?_;clear Z a;intro a Z;refine dp 1 Z rfl (p_assign rfl) (fun _=>I) ?_;clear Z a;intro a Z;refine dp 2 Z rfl (p_assign rfl) (fun _=>I) ?_;clear Z a;intro a Z;refine d_done (by kernel_rfl) ?_;refine gc 3 Z ?_;refine ret2 rfl Z rfl rfl ?_;refine ⟨_,(hD3.trans hD9), .inr ⟨?_,rfl,I.drop⟩⟩;rintro ⟨q1,q2,q3,q4⟩;dsimp only at q1 q2 q3 q4
    first|omega|(rcases q4 with q4|q4;cases q4;omega)
   intro h4;replace h4:=gtr_f h4;clear Z a;intro a Z;refine go 17 Z I ?_;clear Z a;intro a Z;refine wp_seq ?_;have hz1:(putZ (key.length:Nat)).length=1:=by rw [putZ_small (by omega) (by omega)];rfl
   have hz2:(putZ 0).length=1:=by rw [putZ_small (by omega) (by omega)];rfl
   refine d_start [] [] (by kernel_rfl) I rfl rfl ?_;clear I w;intro w I;refine dp 0 Z rfl (p_fieldAddr (m:=2) rfl fo_132_2 rfl) (fun _=>I) (listed':= #[true,false,false,false,false,false,false,false,false,false]) ?_;clear Z a;intro a Z;refine dl 1 Z rfl (fun w hS=>f_load rfl scal_34 (Inv.seg 0 hS rfl) rfl) (I) ?_;clear Z a;intro a Z;refine dp 3 Z rfl (p_move rfl) (fun _=>I) ?_;clear Z a;intro a Z;refine dp 5 Z rfl (p_fieldAddr (m:=4) rfl fo_132_4 rfl) (fun _=>I) ?_;clear Z a;intro a Z;refine dl 6 Z rfl (fun w hS=>f_load rfl scal_34 (Inv.seg 0 hS rfl) rfl) (I) ?_;clear Z a;intro a Z;refine do1 2 Z rfl ?_;refine o_call Z rfl rfl rfl rfl ent_121 (PutBytes_data I (RB.nil _) (hk.mono (hD3.trans hD9)) (by simp;omega)) ?_;clear I Z a;rintro r w ⟨D30,hD31,I,hb32⟩ a Z;obtain ⟨A33,c34,rfl,_⟩:=hb32.slice;refine ⟨fun _=>(Inv.weaken I hD31), ?_⟩;refine do1 4 Z rfl ?_;refine o_call Z rfl rfl rfl rfl ent_122 (Put_data (m:=0) I hb32 (by simp only [List.length_append,List.length_nil,hz1];omega) (by omega) (by omega)) ?_;clear I Z a;rintro r w ⟨D35,hD36,I,hb37⟩ a Z;obtain ⟨A38,c39,rfl,_⟩:=hb37.slice;refine ⟨fun _=>(Inv.weaken I (hD31.trans hD36)), ?_⟩;refine do1 7 Z rfl ?_;refine o_call Z rfl rfl rfl rfl ent_121 (PutBytes_spec I hb37 (hv.mono (((hD3.trans hD9).trans hD31).trans hD36)) (by simp only [List.length_append,List.length_nil,hz1];omega)) ?_;clear I Z a;rintro r w ⟨s43,hR40,I⟩ a Z;obtain ⟨A41,c42,rfl,_⟩:=Row.slice hR40;refine ⟨fun _=>(Inv.weaken (I.dropS [0]) (hD31.trans hD36)), ?_⟩;refine dp 8 Z rfl (p_assign rfl) (fun _=>(Inv.weaken (I.dropS [0]) (hD31.trans hD36))) ?_;clear Z a;intro a Z;refine dp 9 Z rfl (p_assign rfl) (fun _=>(Inv.weaken (I.dropS [0]) (hD31.trans hD36))) ?_;clear Z a;intro a Z;refine d_done (by kernel_rfl) ?_;refine gc 2 Z ?_;refine ret2 rfl Z rfl rfl ?_;refine ⟨_,(((hD3.trans hD9).trans hD31).trans hD36), .inl ⟨_,_,⟨by dsimp only;omega,by dsimp only;omega,by dsimp only;omega, .inr (by dsimp only;omega)⟩,rfl,I.drop_at 1,Row.cast hR40 (by simp [Ent.enc,hadZ]) (by simp [Ent.enc,hadZ];try omega)⟩⟩
  refine go 18 Z I ?_;clear Z a;intro a Z;refine ret2 rfl Z rfl rfl ?_;refine ⟨_,hD3, .inr ⟨?_,rfl,I.drop⟩⟩;rintro ⟨q1,q2,q3,q4⟩;dsimp only at q1 q2 q3 q4
  first|omega|(rcases q4 with q4|q4;cases q4;omega)
 refine go 18 Z I ?_;clear Z a;intro a Z;refine ret2 rfl Z rfl rfl ?_;refine ⟨_,(Le.refl _), .inr ⟨?_,rfl,I.drop⟩⟩;rintro ⟨q1,q2,q3,q4⟩;dsimp only at q1 q2 q3 q4
 first|omega|(rcases q4 with q4|q4;cases q4;omega)
open Go
instance:Inhabited Ent:=⟨⟨0,0, [],false, []⟩⟩
def ueOf (e:Ent):Bs×Bs:=(keyL e.tx e.n,e.enc)
def befE (a b:Ent):Prop:=a.tx<b.tx\/(a.tx=b.tx/\a.n<b.n)
instance (a b:Ent):Decidable (befE a b):=inferInstanceAs (Decidable (_\/_))
def withE:List Ent->Ent->List Ent
 | [],e=> [e]
 |a::r,e=>if befE a e then a::withE r e else if a.tx=e.tx/\a.n=e.n then e::r else e::a::r
theorem with_mem {e:Ent}: ∀(l:List Ent) {a:Ent},a∈withE l e->a=e\/a∈l
 | [],a,h=>by simpa [withE] using h
 |x::r,a,h=>by
  rw [withE] at h;split at h
  ·rcases List.mem_cons.1 h with h|h
   ·exact .inr (by simp [h])
   rcases with_mem r h with h|h
   ·exact .inl h
   exact .inr (by simp [h])
  split at h
  ·rcases List.mem_cons.1 h with h|h
   ·exact .inl h
   exact .inr (by simp [h])
  rcases List.mem_cons.1 h with h|h
  ·exact .inl h
  exact .inr h
theorem with_ins {e:Ent} (he:e.Ok): ∀l:List Ent,(∀a∈l,a.Ok)->(withE l e).map ueOf=insKv (l.map ueOf) (keyL e.tx e.n) e.enc
 | [],_=>rfl
 |a::r,h=>by
  have ha:=h a (by simp);have ih:=with_ins he r (fun b hb=>h b (by simp [hb]));have h1:=ltB_key ha.1 he.1;have h2:=key_eq ha.1 he.1;rw [withE];show List.map ueOf (if befE a e then a::withE r e else if a.tx=e.tx/\a.n=e.n then e::r else e::a::r)=(if ltB (keyL a.tx a.n) (keyL e.tx e.n)=true then ueOf a::insKv (r.map ueOf) (keyL e.tx e.n) e.enc else if keyL a.tx a.n=keyL e.tx e.n then (keyL a.tx a.n,e.enc)::r.map ueOf else (keyL e.tx e.n,e.enc)::ueOf a::r.map ueOf);by_cases hb:befE a e
  ·have h3:ltB (keyL a.tx a.n) (keyL e.tx e.n)=true:=by rw [h1];exact hb
   rw [if_pos hb,if_pos h3,List.map_cons,ih]
  have h3: ¬ltB (keyL a.tx a.n) (keyL e.tx e.n)=true:=by rw [h1];exact hb
  rw [if_neg hb,if_neg h3];by_cases hs:a.tx=e.tx/\a.n=e.n
  ·have h4:keyL a.tx a.n=keyL e.tx e.n:=by rw [h2];exact hs
   rw [if_pos hs,if_pos h4,h4,List.map_cons];rfl
  have h4: ¬keyL a.tx a.n=keyL e.tx e.n:=by rw [h2];exact hs
  rw [if_neg hs,if_neg h4];rfl
theorem Equal_spec {w0 w:World} {D:Sto} {ss:List Seg} (I:Inv w0 D ss w) {va vb:Value} {ka kb:List Nat} (ha:RB D va ka) (hb:RB D vb kb) :
  Calls Tryd.prog 88 #[va,vb] w (Ret fun r w'=>r= .bool (decide (ka=kb))/\Inv w0 D ss w'):=by
 obtain ⟨A1,c2,rfl,_⟩:=ha.slice;obtain ⟨A3,c4,rfl,_⟩:=hb.slice;refine enter (N:=10) Tryd.func88 rfl rfl rfl ?_;intro a Z;refine go 5 Z I ?_;clear Z a;intro a Z;refine zl Z (r_toString I rfl ha Tryd.underlying34 Tryd.underlying5 Tryd.underlying9) ?_;clear Z a;intro a Z;refine zm Z ?_;clear Z a;intro a Z;refine zl Z (r_toString I rfl hb Tryd.underlying34 Tryd.underlying5 Tryd.underlying9) ?_;clear Z a;intro a Z;refine zs Z (p_strEql rfl rfl (strOf_eq ha.lt hb.lt)) ?_;clear Z a;intro a Z;refine go 3 Z I ?_;clear Z a;intro a Z;refine ret1 rfl Z rfl ?_;exact ⟨rfl,I⟩
def UeR (D:Sto) (vs:List Value) (x:Ent):Prop:= ∃k v,vs= [.int .i64 x.tx, .int .i64 x.n,k, .bool x.had,v]/\RB D k x.key/\RB D v x.value
theorem UeR.keeps:Keeps UeR:=fun D D' vs x hD h=>by obtain ⟨k,v,rfl,h1,h2⟩:=h;exact ⟨k,v,rfl,h1.mono hD,h2.mono hD⟩
end Go.Proofs.YtkknmpkcfpdllaaDoor.B
