/- What functions of the program compute, each function once: steps over the model, and the plain law of it. -/
import Derived.Test.YtkknmpkcfpdllaaGreatDoorTScan
import Derived.Test.YtkknmpkcfpdllaaGreatDoorTValues
import Derived.Test.YtkknmpkcfpdllaaGreatDoorSStr
import Derived.Test.YtkknmpkcfpdllaaGreatDoorTUndoRead
import Derived.Test.YtkknmpkcfpdllaaGreatDoorTFacts
import Derived.Test.YtkknmpkcfpdllaaGreatDoorTTreeLaid
import Derived.Test.YtkknmpkcfpdllaaGreatDoorTTree7
namespace Go.Proofs.YtkknmpkcfpdllaaGreatDoor.B
open Go Go.Proofs
set_option linter.unusedVariables false
set_option linter.unusedSimpArgs false
set_option maxRecDepth 20000
set_option maxHeartbeats 8000000
def only (f:Int->Option Pg) (ids:List Int):Int->Option Pg:=fun id=>if id∈ids then f id else none
theorem Inv.drop_at {w0 w:World} {D:Sto} {ss:List Seg} {s:Seg} (i:Nat) (h:Inv w0 D (s::ss) w):Inv w0 D (s::ss.eraseIdx (i - 1)) w:=by
 have:=(h.put_back 0).erase 0;have h2:=h.perm (ss':=ss++ [s]) (by simp [List.flatten_append];exact List.perm_append_comm);have h3:Inv w0 D (s::ss.eraseIdx (i - 1)) w:=by
  cases hi:ss[i - 1]? with
  |none=>rw [List.eraseIdx_of_length_le (List.getElem?_eq_none_iff.1 hi)];exact h
  |some q=>
   have hp:=(erase_perm (i - 1) ss hi).flatten;have h4:Inv w0 D (q::s::ss.eraseIdx (i - 1)) w:=h.perm (by
    simp only [List.flatten_cons] at hp ⊢;refine List.Perm.trans ?_ (List.Perm.append_left s hp);rw [<-List.append_assoc,<-List.append_assoc];exact List.Perm.append_right _ List.perm_append_comm)
   exact h4.drop
 exact h3
theorem UBytes_spec {w0 w:World} {D:Sto} {ss:List Seg} (I:Inv w0 D ss w) {ad:Nat->Addr} (g105:GlobIs D 0 (errV ad 105)) (tx n:Int) {vk vv:Value} {key value:List Nat} (had:Bool) (hk:RB D vk key) (hv:RB D vv value) (hm:value.length<=140737488000000) :
  Calls Tryz.prog 20 #[.agg #[.int .i64 tx, .int .i64 n,vk, .bool had,vv]] w (Ret fun r w'=> ∃D',Le D D'/\((∃v s,(⟨tx,n,key,had,value⟩:Ent).Ok/\r= .tuple #[v, .nilIface]/\Inv w0 D' (s::ss) w'/\OB v (⟨tx,n,key,had,value⟩:Ent).enc s)\/(¬(⟨tx,n,key,had,value⟩:Ent).Ok/\r= .tuple #[.slice none 0 0,errV ad 105]/\Inv w0 D' ss w'))):=by
 obtain ⟨Ak,ck,rfl,_⟩:=hk.slice;obtain ⟨Av,cv,rfl,_⟩:=hv.slice;have hhad:had=true↔had=true:=Iff.rfl;refine enter (N:=55) Tryz.func20 rfl rfl rfl ?_;intro a Z;refine wsr ?_;refine l_step rfl (f_box (cs:= #[_,_,_,_,_]) Z I rfl rfl rfl rfl rfl ?_);clear I Z a w;intro a b1 w Z I;refine go 9 Z I ?_;clear Z a;intro a Z;refine l_step rfl (o_call Z rfl rfl rfl rfl ent_19 (Key_spec I g105 tx n) ?_);clear I Z a;rintro r w h a Z;rcases h with ⟨v4,D2,h1,rfl,hD3,I,hv5⟩|⟨h1,rfl,I⟩
 ·obtain ⟨A6,c7,rfl,_⟩:=hv5.slice;refine go 17 Z I ?_;clear Z a;intro a Z;refine l_step rfl (o_call Z rfl rfl rfl rfl ent_23 (UserKey_spec I (g105.mono hD3) (hk.mono hD3)) ?_);clear I Z a;rintro r w h a Z;rcases h with ⟨v10,D8,h2,h2_,rfl,hD9,I,hv11⟩|⟨h2,rfl,I⟩
  ·obtain ⟨A12,c13,rfl,_⟩:=hv11.slice;refine go 17 Z I ?_;clear Z a;intro a Z;refine zs Z (p_len rfl rfl Tryz.underlying33) ?_;clear Z a;intro a Z;refine cmx Z ?_ ?_
   ·intro h3;replace h3:=gtr_t h3;clear Z a;intro a Z;refine go 13 Z I ?_;clear Z a;intro a Z;refine wp_seq ?_;refine d_start [] [] (by kernel_rfl) I rfl rfl ?_;clear I w;intro w I;obtain ⟨T_14,fr_14,hg_14⟩:=g105;refine dl 0 Z rfl (fun w hS=>f_load rfl scal_38 (Inv.data hS _ _ ((hD3.trans hD9) _ _ (hg_14))) rfl) (I) (listed':= #[true,false,false]) ?_;clear Z a;intro a Z;refine dp 1 Z rfl (p_assign rfl) (fun _=>I) ?_;clear Z a;intro a Z;refine dp 2 Z rfl (p_assign rfl) (fun _=>I) ?_;clear Z a;intro a Z;refine dnx ?_;refine gc 3 Z ?_;refine ret2 rfl Z rfl rfl ?_;refine ⟨_,(hD3.trans hD9), .inr ⟨?_,rfl,I.drop⟩⟩;rintro ⟨q1,q2,q3,q4⟩;dsimp only at q1 q2 q3 q4
    first|omega|(rcases q4 with q4|q4;cases q4;omega)
   intro h3;replace h3:=gtr_f h3;clear Z a;intro a Z;refine go 3 Z I ?_;clear Z a;intro a Z;rcases Bool.eq_false_or_eq_true had with rfl|rfl
   ·replace hhad:=iff_t hhad;refine gs Z (p_not rfl) ?_;clear Z a;intro a Z;refine go 23 Z I ?_;clear Z a;intro a Z;refine wp_seq ?_;have hz1:(putZ (key.length:Nat)).length=1:=by rw [putZ_small (by omega) (by omega)];rfl
    have hz2:(putZ 1).length=1:=by rw [putZ_small (by omega) (by omega)];rfl
    refine d_start [] [] (by kernel_rfl) I rfl rfl ?_;clear I w;intro w I;refine dp 0 Z rfl (p_fieldAddr (m:=2) rfl fo_35_2 rfl) (fun _=>I) (listed':= #[true,false,false,false,false,false,false,false,false,false]) ?_;clear Z a;intro a Z;refine dl 1 Z rfl (fun w hS=>f_load rfl scal_33 (Inv.seg 0 hS rfl) rfl) (I) ?_;clear Z a;intro a Z;refine dp 3 Z rfl (p_move rfl) (fun _=>I) ?_;clear Z a;intro a Z;refine dp 5 Z rfl (p_fieldAddr (m:=4) rfl fo_35_4 rfl) (fun _=>I) ?_;clear Z a;intro a Z;refine dl 6 Z rfl (fun w hS=>f_load rfl scal_33 (Inv.seg 0 hS rfl) rfl) (I) ?_;clear Z a;intro a Z;refine do1 2 Z rfl ?_;refine o_call Z rfl rfl rfl rfl ent_67 (PutBytes_data I (RB.nil _) (hk.mono (hD3.trans hD9)) (by simp;omega)) ?_;clear I Z a;rintro r w ⟨D15,hD16,I,hb17⟩ a Z;obtain ⟨A18,c19,rfl,_⟩:=hb17.slice;refine ⟨fun _=>(Inv.weaken I hD16), ?_⟩;refine do1 4 Z rfl ?_;refine o_call Z rfl rfl rfl rfl ent_68 (Put_data (m:=1) I hb17 (by simp only [List.length_append,List.length_nil,hz1];omega) (by omega) (by omega)) ?_;clear I Z a;rintro r w ⟨D20,hD21,I,hb22⟩ a Z;obtain ⟨A23,c24,rfl,_⟩:=hb22.slice;refine ⟨fun _=>(Inv.weaken I (hD16.trans hD21)), ?_⟩;refine do1 7 Z rfl ?_;refine o_call Z rfl rfl rfl rfl ent_67 (PutBytes_spec I hb22 (hv.mono (((hD3.trans hD9).trans hD16).trans hD21)) (by simp only [List.length_append,List.length_nil,hz1];omega)) ?_;clear I Z a;rintro r w ⟨s28,hR25,I⟩ a Z;obtain ⟨A26,c27,rfl,_⟩:=Row.slice hR25;refine ⟨fun _=>(Inv.weaken (I.dropS [0]) (hD16.trans hD21)), ?_⟩;refine dp 8 Z rfl (p_assign rfl) (fun _=>(Inv.weaken (I.dropS [0]) (hD16.trans hD21))) ?_;clear Z a;intro a Z;refine dp 9 Z rfl (p_assign rfl) (fun _=>(Inv.weaken (I.dropS [0]) (hD16.trans hD21))) ?_;clear Z a;intro a Z;refine dnx ?_;refine gc 2 Z ?_;refine ret2 rfl Z rfl rfl ?_;refine ⟨_,(((hD3.trans hD9).trans hD16).trans hD21), .inl ⟨_,_,⟨by dsimp only;omega,by dsimp only;omega,by dsimp only;omega, .inl rfl⟩,rfl,I.drop_at 1,Row.cast hR25 (by simp [Ent.enc,hadZ]) (by simp [Ent.enc,hadZ];try omega)⟩⟩
   replace hhad:=iff_f hhad;refine gs Z (p_not rfl) ?_;clear Z a;intro a Z;refine go 3 Z I ?_;clear Z a;intro a Z;refine gs Z (p_len rfl rfl Tryz.underlying33) ?_;clear Z a;intro a Z;refine cgx Z ?_ ?_
   ·intro h4;replace h4:=gtr_t h4;clear Z a;intro a Z;refine go 4 Z I ?_;clear Z a;intro a Z;refine wp_seq ?_;refine d_start [] [] (by kernel_rfl) I rfl rfl ?_;clear I w;intro w I;obtain ⟨T_29,fr_29,hg_29⟩:=g105;refine dl 0 Z rfl (fun w hS=>f_load rfl scal_38 (Inv.data hS _ _ ((hD3.trans hD9) _ _ (hg_29))) rfl) (I) (listed':= #[true,false,false]) ?_;clear Z a;intro a Z;refine dp 1 Z rfl (p_assign rfl) (fun _=>I) ?_;clear Z a;intro a Z;refine dp 2 Z rfl (p_assign rfl) (fun _=>I) ?_;clear Z a;intro a Z;refine dnx ?_;refine gc 3 Z ?_;refine ret2 rfl Z rfl rfl ?_;refine ⟨_,(hD3.trans hD9), .inr ⟨?_,rfl,I.drop⟩⟩;rintro ⟨q1,q2,q3,q4⟩;dsimp only at q1 q2 q3 q4
    first|omega|(rcases q4 with q4|q4;cases q4;omega)
   intro h4;replace h4:=gtr_f h4;clear Z a;intro a Z;refine go 17 Z I ?_;clear Z a;intro a Z;refine wp_seq ?_;have hz1:(putZ (key.length:Nat)).length=1:=by rw [putZ_small (by omega) (by omega)];rfl
   have hz2:(putZ 0).length=1:=by rw [putZ_small (by omega) (by omega)];rfl
   refine d_start [] [] (by kernel_rfl) I rfl rfl ?_;clear I w;intro w I;refine dp 0 Z rfl (p_fieldAddr (m:=2) rfl fo_35_2 rfl) (fun _=>I) (listed':= #[true,false,false,false,false,false,false,false,false,false]) ?_;clear Z a;intro a Z;refine dl 1 Z rfl (fun w hS=>f_load rfl scal_33 (Inv.seg 0 hS rfl) rfl) (I) ?_;clear Z a;intro a Z;refine dp 3 Z rfl (p_move rfl) (fun _=>I) ?_;clear Z a;intro a Z;refine dp 5 Z rfl (p_fieldAddr (m:=4) rfl fo_35_4 rfl) (fun _=>I) ?_;clear Z a;intro a Z;refine dl 6 Z rfl (fun w hS=>f_load rfl scal_33 (Inv.seg 0 hS rfl) rfl) (I) ?_;clear Z a;intro a Z;refine do1 2 Z rfl ?_;refine o_call Z rfl rfl rfl rfl ent_67 (PutBytes_data I (RB.nil _) (hk.mono (hD3.trans hD9)) (by simp;omega)) ?_;clear I Z a;rintro r w ⟨D30,hD31,I,hb32⟩ a Z;obtain ⟨A33,c34,rfl,_⟩:=hb32.slice;refine ⟨fun _=>(Inv.weaken I hD31), ?_⟩;refine do1 4 Z rfl ?_;refine o_call Z rfl rfl rfl rfl ent_68 (Put_data (m:=0) I hb32 (by simp only [List.length_append,List.length_nil,hz1];omega) (by omega) (by omega)) ?_;clear I Z a;rintro r w ⟨D35,hD36,I,hb37⟩ a Z;obtain ⟨A38,c39,rfl,_⟩:=hb37.slice;refine ⟨fun _=>(Inv.weaken I (hD31.trans hD36)), ?_⟩;refine do1 7 Z rfl ?_;refine o_call Z rfl rfl rfl rfl ent_67 (PutBytes_spec I hb37 (hv.mono (((hD3.trans hD9).trans hD31).trans hD36)) (by simp only [List.length_append,List.length_nil,hz1];omega)) ?_;clear I Z a;rintro r w ⟨s43,hR40,I⟩ a Z;obtain ⟨A41,c42,rfl,_⟩:=Row.slice hR40;refine ⟨fun _=>(Inv.weaken (I.dropS [0]) (hD31.trans hD36)), ?_⟩;refine dp 8 Z rfl (p_assign rfl) (fun _=>(Inv.weaken (I.dropS [0]) (hD31.trans hD36))) ?_;clear Z a;intro a Z;refine dp 9 Z rfl (p_assign rfl) (fun _=>(Inv.weaken (I.dropS [0]) (hD31.trans hD36))) ?_;clear Z a;intro a Z;refine dnx ?_;refine gc 2 Z ?_;refine ret2 rfl Z rfl rfl ?_;refine ⟨_,(((hD3.trans hD9).trans hD31).trans hD36), .inl ⟨_,_,⟨by dsimp only;omega,by dsimp only;omega,by dsimp only;omega, .inr (by dsimp only;omega)⟩,rfl,I.drop_at 1,Row.cast hR40 (by simp [Ent.enc,hadZ]) (by simp [Ent.enc,hadZ];try omega)⟩⟩
  refine go 18 Z I ?_;clear Z a;intro a Z;refine ret2 rfl Z rfl rfl ?_;refine ⟨_,hD3, .inr ⟨?_,rfl,I.drop⟩⟩;rintro ⟨q1,q2,q3,q4⟩;dsimp only at q1 q2 q3 q4
  first|omega|(rcases q4 with q4|q4;cases q4;omega)
 refine go 18 Z I ?_;clear Z a;intro a Z;refine ret2 rfl Z rfl rfl ?_;refine ⟨_,(Le.refl _), .inr ⟨?_,rfl,I.drop⟩⟩;rintro ⟨q1,q2,q3,q4⟩;dsimp only at q1 q2 q3 q4
 first|omega|(rcases q4 with q4|q4;cases q4;omega)
open Go
instance:Inhabited Ent:=⟨⟨0,0, [],false, []⟩⟩
def ueOf (e:Ent):Bs×Bs:=(keyL e.tx e.n,e.enc)
def befE (a b:Ent):Prop:=a.tx<b.tx\/(a.tx=b.tx/\a.n<b.n)
instance (a b:Ent):Decidable (befE a b):=inferInstanceAs (Decidable (_\/_))
def withE:List Ent->Ent->List Ent
 | [],e=> [e]
 |a::r,e=>if befE a e then a::withE r e else if a.tx=e.tx/\a.n=e.n then e::r else e::a::r
theorem with_mem {e:Ent}: ∀(l:List Ent) {a:Ent},a∈withE l e->a=e\/a∈l
 | [],a,h=>by simpa [withE] using h
 |x::r,a,h=>by
  rw [withE] at h;split at h
  ·rcases List.mem_cons.1 h with h|h
   ·exact .inr (by simp [h])
   rcases with_mem r h with h|h
   ·exact .inl h
   exact .inr (by simp [h])
  split at h
  ·rcases List.mem_cons.1 h with h|h
   ·exact .inl h
   exact .inr (by simp [h])
  rcases List.mem_cons.1 h with h|h
  ·exact .inl h
  exact .inr h
theorem with_ins {e:Ent} (he:e.Ok): ∀l:List Ent,(∀a∈l,a.Ok)->(withE l e).map ueOf=insKv (l.map ueOf) (keyL e.tx e.n) e.enc
 | [],_=>rfl
 |a::r,h=>by
  have ha:=h a (by simp);have ih:=with_ins he r (fun b hb=>h b (by simp [hb]));have h1:=ltB_key ha.1 he.1;have h2:=key_eq ha.1 he.1;rw [withE];show List.map ueOf (if befE a e then a::withE r e else if a.tx=e.tx/\a.n=e.n then e::r else e::a::r)=(if ltB (keyL a.tx a.n) (keyL e.tx e.n)=true then ueOf a::insKv (r.map ueOf) (keyL e.tx e.n) e.enc else if keyL a.tx a.n=keyL e.tx e.n then (keyL a.tx a.n,e.enc)::r.map ueOf else (keyL e.tx e.n,e.enc)::ueOf a::r.map ueOf);by_cases hb:befE a e
  ·have h3:ltB (keyL a.tx a.n) (keyL e.tx e.n)=true:=by rw [h1];exact hb
   rw [if_pos hb,if_pos h3,List.map_cons,ih]
  have h3: ¬ltB (keyL a.tx a.n) (keyL e.tx e.n)=true:=by rw [h1];exact hb
  rw [if_neg hb,if_neg h3];by_cases hs:a.tx=e.tx/\a.n=e.n
  ·have h4:keyL a.tx a.n=keyL e.tx e.n:=by rw [h2];exact hs
   rw [if_pos hs,if_pos h4,h4,List.map_cons];rfl
  have h4: ¬keyL a.tx a.n=keyL e.tx e.n:=by rw [h2];exact hs
  rw [if_neg hs,if_neg h4];rfl
theorem BDel_ok {w0 w:World} {D:Sto} {ss:List Seg} {sb sp:Seg} {vb vp:Value} {b b':Bt} {P:Pl} {res:Bool} (I:Inv w0 D (sb::sp::ss) w) {ad:Nat->Addr} (hS:TSents D ad) (hB:BatchS D vb vp b sb) (hP:PoolS D vp P sp) (hpool:b.pool=P.f) {vk:Value} {key:Bs} (hk:RB D vk key) (hlen:b.recs.length<=1000000000 - 8000) (hok:b.delete key= .ok (res,b')) :
  Calls Tryz.prog 41 #[vb,vk] w (Ret fun r w'=>r= .tuple #[.bool res, .nilIface]/\ ∃D' sb' sp',Le D D'/\BatchS D' vb vp b' sb'/\PoolS D' vp P sp'/\Inv w0 D' (sb'::sp'::ss) w'):=by
 refine (BDelete_spec I.merge hS (TreeS.join hB hP hpool) hk hlen).mono fun e w' h=> ?_;obtain ⟨r,he,h⟩:=h;refine ⟨r,he, ?_⟩;rcases h with ⟨res1,b1,h1,rfl,D',s',hD,hT,hI'⟩|⟨c,o,h1,_⟩
 ·rw [hok] at h1;injection h1 with h1;injection h1 with h1 h2;subst h1;subst h2
  obtain ⟨sb',sp',rfl,hB',hP',_⟩:=hT;exact ⟨rfl,D',sb',sp',hD,hB',hP',hI'.parted⟩
 rw [hok] at h1;cases h1
theorem Equal_spec {w0 w:World} {D:Sto} {ss:List Seg} (I:Inv w0 D ss w) {va vb:Value} {ka kb:List Nat} (ha:RB D va ka) (hb:RB D vb kb) :
  Calls Tryz.prog 160 #[va,vb] w (Ret fun r w'=>r= .bool (decide (ka=kb))/\Inv w0 D ss w'):=by
 obtain ⟨A1,c2,rfl,_⟩:=ha.slice;obtain ⟨A3,c4,rfl,_⟩:=hb.slice;refine enter (N:=10) Tryz.func160 rfl rfl rfl ?_;intro a Z;refine go 5 Z I ?_;clear Z a;intro a Z;refine zl Z (r_toString I rfl ha Tryz.underlying33 Tryz.underlying5 Tryz.underlying9) ?_;clear Z a;intro a Z;refine zm Z ?_;clear Z a;intro a Z;refine zl Z (r_toString I rfl hb Tryz.underlying33 Tryz.underlying5 Tryz.underlying9) ?_;clear Z a;intro a Z;refine zs Z (p_strEql rfl rfl (strOf_eq ha.lt hb.lt)) ?_;clear Z a;intro a Z;refine go 3 Z I ?_;clear Z a;intro a Z;refine rt1 Z ?_;exact ⟨rfl,I⟩
def UeR (D:Sto) (vs:List Value) (x:Ent):Prop:= ∃k v,vs= [.int .i64 x.tx, .int .i64 x.n,k, .bool x.had,v]/\RB D k x.key/\RB D v x.value
theorem UeR.keeps:Keeps UeR:=fun D D' vs x hD h=>by obtain ⟨k,v,rfl,h1,h2⟩:=h;exact ⟨k,v,rfl,h1.mono hD,h2.mono hD⟩
theorem UeR.one {D:Sto} {vs:List Value} {x:Ent} (h:UeR D vs x): ∀u∈vs,u.oneCell'=true:=by obtain ⟨k,v,rfl,h1,h2⟩:=h;obtain ⟨_,_,rfl,_⟩:=h1.slice;obtain ⟨_,_,rfl,_⟩:=h2.slice;intro u hu;simp only [List.mem_cons,List.not_mem_nil,or_false] at hu;rcases hu with rfl|rfl|rfl|rfl|rfl<;>rfl
theorem strOf_foldl: ∀(bs:List Nat) (acc:ByteArray),((bs.map (fun x=>((x:Nat):Int))).foldl (fun r n=>r.push (UInt8.ofNat n.toNat)) acc)=⟨acc.data++(bs.map UInt8.ofNat).toArray⟩
 | [],acc=>by simp
 |x::r,acc=>by
  rw [List.map_cons,List.foldl_cons,strOf_foldl r];simp [ByteArray.push]
theorem strOf_is (bs:List Nat):strOf bs=⟨(bs.map UInt8.ofNat).toArray⟩:=by rw [strOf,strOf_foldl];simp
theorem strOf_inj {a b:List Nat} (ha: ∀x∈a,x<256) (hb: ∀x∈b,x<256) (h:strOf a=strOf b):a=b:=by
 rw [strOf_is,strOf_is] at h;injection h with h
 have h:a.map UInt8.ofNat=b.map UInt8.ofNat:=by simpa using h
 have inv: ∀l:List Nat,(∀x∈l,x<256)->(l.map UInt8.ofNat).map UInt8.toNat=l:=fun l hl=>by
  rw [List.map_map]
  conv=>rhs;rw [<-List.map_id l]
  refine List.map_congr_left fun x hx=> ?_;have:=hl x hx;simp only [Function.comp_apply,UInt8.toNat_ofNat',id_eq];omega
 rw [<-inv a ha,<-inv b hb,h]
structure Opn where
 n:Nat
 old:List Ent
 bo:Nat
structure Db where
 epoch:Int
 begun:Int
 seq:Int
 l:List (Int×Opn)
def OldR (D:Sto):List (ByteArray×Value)->List Ent->Prop
 | [], []=>True
 |(s,v)::m,e::l=>s=strOf e.key/\(∃vs,v= .agg vs.toArray/\UeR D vs e)/\OldR D m l
 |_,_=>False
theorem OldR.mono {D D':Sto}: ∀{m:List (ByteArray×Value)} {l:List Ent},OldR D m l->Le D D'->OldR D' m l
 | [], [],_,_=>trivial
 |(s,v)::m,e::l,⟨h1,⟨vs,h2,h3⟩,h4⟩,hD=>⟨h1,⟨vs,h2,UeR.keeps D D' vs e hD h3⟩,h4.mono hD⟩
 | [],_::_,h,_=>h.elim
 |_::_, [],h,_=>h.elim
def lookO (l:List Ent) (key:Bs):Option Ent:=l.find? fun e=>decide (e.key=key)
def Byt (bs:Bs):Prop:= ∀x∈bs,x<256
theorem RB.byt {D:Sto} {v:Value} {bs:Bs} (h:RB D v bs):Byt bs:=by obtain ⟨A,c,_,_,h3,_⟩:=h;exact h3
theorem UeR.byt {D:Sto} {vs:List Value} {e:Ent} (h:UeR D vs e):Byt e.key:=by obtain ⟨k,v,_,h1,_⟩:=h;exact h1.byt
theorem OldR.look {D:Sto} {key:Bs} (hk:Byt key): ∀{m:List (ByteArray×Value)} {l:List Ent},OldR D m l->
    (match lookO l key with
     |none=>getS m (strOf key)=none
     |some e=>e.key=key/\e∈l/\ ∃vs,getS m (strOf key)=some (.agg vs.toArray)/\UeR D vs e)
  | [], [],_=>rfl
  |(s,v)::m,e::l,⟨h1,⟨vs,h2,h3⟩,h4⟩=>by
    have ih:=OldR.look hk h4;unfold lookO at ih ⊢;rw [List.find?_cons];by_cases he:e.key=key
    ·subst h1;subst h2;rw [decide_eq_true he];simp only [getS];rw [if_pos (by rw [he])];exact ⟨he,by simp,vs,rfl,h3⟩
    rw [decide_eq_false he];simp only [getS];rw [if_neg (by rw [h1];intro q;exact he (strOf_inj h3.byt hk q))];cases hf:List.find? (fun e=>decide (e.key=key)) l with
    |none=>rw [hf] at ih;exact ih
    |some x=>rw [hf] at ih;obtain ⟨a,b,c⟩:=ih;exact ⟨a,by simp [b],c⟩
  | [],_::_,h=>h.elim
  |_::_, [],h=>h.elim
def OpS (D:Sto) (o:Opn) (s:Seg):Prop:= ∃bm es clk m,s= [(o.bo, .cells #[.int .i64 (o.n:Nat), .map (some bm)] 179 (0,0)),(bm, .map es clk)]/\StrMap es clk m/\OldR D m o.old
def OpsS (D:Sto):List (Int×Opn)->List Seg->Prop
 | [], []=>True
 |p::l,s::ss=>OpS D p.2 s/\OpsS D l ss
 |_,_=>False
theorem OpS.mono {D D':Sto} {o:Opn} {s:Seg} (h:OpS D o s) (hD:Le D D'):OpS D' o s:=by obtain ⟨bm,es,clk,m,h1,h2,h3⟩:=h;exact ⟨bm,es,clk,m,h1,h2,h3.mono hD⟩
theorem OpsS.mono {D D':Sto}: ∀{l:List (Int×Opn)} {ss:List Seg},OpsS D l ss->Le D D'->OpsS D' l ss
 | [], [],_,_=>trivial
 |p::l,s::ss,⟨h1,h2⟩,hD=>⟨h1.mono hD,h2.mono hD⟩
 | [],_::_,h,_=>h.elim
 |_::_, [],h,_=>h.elim
def ptrOf (p:Int×Opn):Int×Value:=(p.1, .pointer (some ⟨p.2.bo,0,none⟩))
def DbS (D:Sto) (vd vp:Value) (d:Db) (s:Seg):Prop:= ∃bd bl es clk os,vd= .pointer (some ⟨bd,0,none⟩)/\
 s=(bd, .cells #[.int .i64 d.epoch,vp, .int .i64 d.begun, .map (some bl), .int .i64 d.seq] 175 (0,0))::(bl, .map es clk)::os.flatten/\IntMap es clk (d.l.map ptrOf)/\OpsS D d.l os
theorem DbS.mono {D D':Sto} {vd vp:Value} {d:Db} {s:Seg} (h:DbS D vd vp d s) (hD:Le D D'):DbS D' vd vp d s:=by obtain ⟨bd,bl,es,clk,os,h1,h2,h3,h4⟩:=h;exact ⟨bd,bl,es,clk,os,h1,h2,h3,h4.mono hD⟩
theorem DbS.ptr {D:Sto} {vd vp:Value} {d:Db} {s:Seg} (h:DbS D vd vp d s): ∃bd,vd= .pointer (some ⟨bd,0,none⟩):=by obtain ⟨bd,_,_,_,_,h1,_⟩:=h;exact ⟨bd,h1⟩
end Go.Proofs.YtkknmpkcfpdllaaGreatDoor.B
