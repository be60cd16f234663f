/- A program logic over the model: what is owned, what is written no more, and one lemma for each kind of step. -/
import Derived.Test.YtkknmpkcfpdllaaGreatDoorTPage
import Derived.Test.YtkknmpkcfpdllaaGreatDoorSLogB
import Derived.Test.YtkknmpkcfpdllaaGreatDoorTScan
import Derived.Test.YtkknmpkcfpdllaaGreatDoorSOrow
import Derived.Test.YtkknmpkcfpdllaaGreatDoorTFacts
import Derived.Test.YtkknmpkcfpdllaaGreatDoorTTreeLaid
import Derived.Test.YtkknmpkcfpdllaaGreatDoorTTree7
namespace Go.Proofs.YtkknmpkcfpdllaaGreatDoor.B
open Go Go.Proofs
set_option linter.unusedVariables false
set_option linter.unusedSimpArgs false
set_option maxRecDepth 20000
set_option maxHeartbeats 8000000
def only (f:Int→Option Pg) (ids:List Int):Int→Option Pg:=fun id=>if id∈ids then f id else none
theorem Inv.drop_at {w0 w:World} {D:Sto} {ss:List Seg} {s:Seg} (i:Nat) (h:Inv w0 D (s::ss) w):Inv w0 D (s::ss.eraseIdx (i - 1)) w:=by
 have:=(h.put_back 0).erase 0;have h2:=h.perm (ss':=ss++ [s]) (by simp [List.flatten_append];exact List.perm_append_comm);have h3:Inv w0 D (s::ss.eraseIdx (i - 1)) w:=by
  cases hi:ss[i - 1]? with
  |none=>rw [List.eraseIdx_of_length_le (List.getElem?_eq_none_iff.1 hi)];exact h
  |some q=>
   have hp:=(erase_perm (i - 1) ss hi).flatten;have h4:Inv w0 D (q::s::ss.eraseIdx (i - 1)) w:=h.perm (by
    simp only [List.flatten_cons] at hp ⊢;refine List.Perm.trans ?_ (List.Perm.append_left s hp);rw [←List.append_assoc,←List.append_assoc];exact List.Perm.append_right _ List.perm_append_comm)
   exact h4.drop
 exact h3
theorem UBytes_spec {w0 w:World} {D:Sto} {ss:List Seg} (hI:Inv w0 D ss w) {ad:Nat→Addr} (g105:GlobIs D 0 (errV ad 105)) (tx n:Int) {vk vv:Value} {key value:List Nat} (had:Bool) (hk:RB D vk key) (hv:RB D vv value) (hm:value.length≤140737488000000) :
  Calls Tryz.prog 20 #[.agg #[.int .i64 tx, .int .i64 n,vk, .bool had,vv]] w (Ret fun r w'=> ∃D',Le D D'∧((∃v s,(⟨tx,n,key,had,value⟩:Ent).Ok∧r= .tuple #[v, .nilIface]∧Inv w0 D' (s::ss) w'∧OB v (⟨tx,n,key,had,value⟩:Ent).enc s)∨(¬(⟨tx,n,key,had,value⟩:Ent).Ok∧r= .tuple #[.slice none 0 0,errV ad 105]∧Inv w0 D' ss w'))):=by
 obtain ⟨Ak,ck,rfl,_⟩:=hk.slice;obtain ⟨Av,cv,rfl,_⟩:=hv.slice;have hhad:had=true↔had=true:=Iff.rfl;refine enter (N:=55) Tryz.func20 rfl rfl rfl ?_;intro a hE;refine wsr ?_;refine l_step rfl (f_box (cs:= #[_,_,_,_,_]) hE hI rfl rfl rfl rfl rfl ?_);clear hI hE a w;intro a b1 w hE hI;refine go 9 hE hI ?_;clear hE a;intro a hE;refine l_step rfl (o_call hE rfl rfl rfl rfl ent_19 (Key_spec hI g105 tx n) ?_);clear hI hE a;rintro r w h a hE;rcases h with ⟨v4,D2,h1,rfl,hD3,hI,hv5⟩|⟨h1,rfl,hI⟩
 ·obtain ⟨A6,c7,rfl,_⟩:=hv5.slice;refine go 17 hE hI ?_;clear hE a;intro a hE;refine l_step rfl (o_call hE rfl rfl rfl rfl ent_23 (UserKey_spec hI (g105.mono hD3) (hk.mono hD3)) ?_);clear hI hE a;rintro r w h a hE;rcases h with ⟨v10,D8,h2,h2_,rfl,hD9,hI,hv11⟩|⟨h2,rfl,hI⟩
  ·obtain ⟨A12,c13,rfl,_⟩:=hv11.slice;refine go 17 hE hI ?_;clear hE a;intro a hE;refine zs hE (p_len rfl rfl Tryz.underlying33) ?_;clear hE a;intro a hE;refine l_step rfl (o_cmp hE rfl rfl rfl rfl rfl rfl ?_ ?_)
   ·intro h3;replace h3:=gtr_t h3;clear hE a;intro a hE;refine go 13 hE hI ?_;clear hE a;intro a hE;refine wp_seq ?_;refine d_start [] [] (by kernel_rfl) hI rfl rfl ?_;clear hI w;intro w hI;obtain ⟨T_14,fr_14,hg_14⟩:=g105;refine dl 0 hE rfl (fun w hS=>f_load rfl scal_38 (Inv.data hS _ _ ((hD3.trans hD9) _ _ (hg_14))) rfl) (hI) (listed':= #[true,false,false]) ?_;clear hE a;intro a hE;refine dp 1 hE rfl (p_assign rfl) (fun _=>hI) ?_;clear hE a;intro a hE;refine dp 2 hE rfl (p_assign rfl) (fun _=>hI) ?_;clear hE a;intro a hE;refine d_done (by kernel_rfl) ?_;refine gc 3 hE ?_;refine ret2 rfl hE rfl rfl ?_;refine ⟨_,(hD3.trans hD9), .inr ⟨?_,rfl,hI.drop⟩⟩;rintro ⟨q1,q2,q3,q4⟩;dsimp only at q1 q2 q3 q4
    first|omega|(rcases q4 with q4|q4;cases q4;omega)
   intro h3;replace h3:=gtr_f h3;clear hE a;intro a hE;refine go 3 hE hI ?_;clear hE a;intro a hE;rcases Bool.eq_false_or_eq_true had with rfl|rfl
   ·replace hhad:=iff_t hhad;refine gs hE (p_not rfl) ?_;clear hE a;intro a hE;refine go 23 hE hI ?_;clear hE a;intro a hE;refine wp_seq ?_;have hz1:(putZ (key.length:Nat)).length=1:=by rw [putZ_small (by omega) (by omega)];rfl
    have hz2:(putZ 1).length=1:=by rw [putZ_small (by omega) (by omega)];rfl
    refine d_start [] [] (by kernel_rfl) hI rfl rfl ?_;clear hI w;intro w hI;refine dp 0 hE rfl (p_fieldAddr (m:=2) rfl fo_35_2 rfl) (fun _=>hI) (listed':= #[true,false,false,false,false,false,false,false,false,false]) ?_;clear hE a;intro a hE;refine dl 1 hE rfl (fun w hS=>f_load rfl scal_33 (Inv.seg 0 hS rfl) rfl) (hI) ?_;clear hE a;intro a hE;refine dp 3 hE rfl (p_move rfl) (fun _=>hI) ?_;clear hE a;intro a hE;refine dp 5 hE rfl (p_fieldAddr (m:=4) rfl fo_35_4 rfl) (fun _=>hI) ?_;clear hE a;intro a hE;refine dl 6 hE rfl (fun w hS=>f_load rfl scal_33 (Inv.seg 0 hS rfl) rfl) (hI) ?_;clear hE a;intro a hE;refine do1 2 hE rfl ?_;refine o_call hE rfl rfl rfl rfl ent_67 (PutBytes_data hI (RB.nil _) (hk.mono (hD3.trans hD9)) (by simp;omega)) ?_;clear hI hE a;rintro r w ⟨D15,hD16,hI,hb17⟩ a hE;obtain ⟨A18,c19,rfl,_⟩:=hb17.slice;refine ⟨fun _=>(Inv.weaken hI hD16), ?_⟩;refine do1 4 hE rfl ?_;refine o_call hE rfl rfl rfl rfl ent_68 (Put_data (m:=1) hI hb17 (by simp only [List.length_append,List.length_nil,hz1];omega) (by omega) (by omega)) ?_;clear hI hE a;rintro r w ⟨D20,hD21,hI,hb22⟩ a hE;obtain ⟨A23,c24,rfl,_⟩:=hb22.slice;refine ⟨fun _=>(Inv.weaken hI (hD16.trans hD21)), ?_⟩;refine do1 7 hE rfl ?_;refine o_call hE rfl rfl rfl rfl ent_67 (PutBytes_spec hI hb22 (hv.mono (((hD3.trans hD9).trans hD16).trans hD21)) (by simp only [List.length_append,List.length_nil,hz1];omega)) ?_;clear hI hE a;rintro r w ⟨s28,hR25,hI⟩ a hE;obtain ⟨A26,c27,rfl,_⟩:=Row.slice hR25;refine ⟨fun _=>(Inv.weaken (hI.dropS [0]) (hD16.trans hD21)), ?_⟩;refine dp 8 hE rfl (p_assign rfl) (fun _=>(Inv.weaken (hI.dropS [0]) (hD16.trans hD21))) ?_;clear hE a;intro a hE;refine dp 9 hE rfl (p_assign rfl) (fun _=>(Inv.weaken (hI.dropS [0]) (hD16.trans hD21))) ?_;clear hE a;intro a hE;refine d_done (by kernel_rfl) ?_;refine gc 2 hE ?_;refine ret2 rfl hE rfl rfl ?_;refine ⟨_,(((hD3.trans hD9).trans hD16).trans hD21), .inl ⟨_,_,⟨by dsimp only;omega,by dsimp only;omega,by dsimp only;omega, .inl rfl⟩,rfl,hI.drop_at 1,Row.cast hR25 (by simp [Ent.enc,hadZ]) (by simp [Ent.enc,hadZ];try omega)⟩⟩
   replace hhad:=iff_f hhad;refine gs hE (p_not rfl) ?_;clear hE a;intro a hE;refine go 3 hE hI ?_;clear hE a;intro a hE;refine gs hE (p_len rfl rfl Tryz.underlying33) ?_;clear hE a;intro a hE;refine l_go hE rfl (o_cmp hE rfl rfl rfl rfl rfl rfl ?_ ?_)
   ·intro h4;replace h4:=gtr_t h4;clear hE a;intro a hE;refine go 4 hE hI ?_;clear hE a;intro a hE;refine wp_seq ?_;refine d_start [] [] (by kernel_rfl) hI rfl rfl ?_;clear hI w;intro w hI;obtain ⟨T_29,fr_29,hg_29⟩:=g105;refine dl 0 hE rfl (fun w hS=>f_load rfl scal_38 (Inv.data hS _ _ ((hD3.trans hD9) _ _ (hg_29))) rfl) (hI) (listed':= #[true,false,false]) ?_;clear hE a;intro a hE;refine dp 1 hE rfl (p_assign rfl) (fun _=>hI) ?_;clear hE a;intro a hE;refine dp 2 hE rfl (p_assign rfl) (fun _=>hI) ?_;clear hE a;intro a hE;refine d_done (by kernel_rfl) ?_;refine gc 3 hE ?_;refine ret2 rfl hE rfl rfl ?_;refine ⟨_,(hD3.trans hD9), .inr ⟨?_,rfl,hI.drop⟩⟩;rintro ⟨q1,q2,q3,q4⟩;dsimp only at q1 q2 q3 q4
    first|omega|(rcases q4 with q4|q4;cases q4;omega)
   intro h4;replace h4:=gtr_f h4;clear hE a;intro a hE;refine go 17 hE hI ?_;clear hE a;intro a hE;refine wp_seq ?_;have hz1:(putZ (key.length:Nat)).length=1:=by rw [putZ_small (by omega) (by omega)];rfl
   have hz2:(putZ 0).length=1:=by rw [putZ_small (by omega) (by omega)];rfl
   refine d_start [] [] (by kernel_rfl) hI rfl rfl ?_;clear hI w;intro w hI;refine dp 0 hE rfl (p_fieldAddr (m:=2) rfl fo_35_2 rfl) (fun _=>hI) (listed':= #[true,false,false,false,false,false,false,false,false,false]) ?_;clear hE a;intro a hE;refine dl 1 hE rfl (fun w hS=>f_load rfl scal_33 (Inv.seg 0 hS rfl) rfl) (hI) ?_;clear hE a;intro a hE;refine dp 3 hE rfl (p_move rfl) (fun _=>hI) ?_;clear hE a;intro a hE;refine dp 5 hE rfl (p_fieldAddr (m:=4) rfl fo_35_4 rfl) (fun _=>hI) ?_;clear hE a;intro a hE;refine dl 6 hE rfl (fun w hS=>f_load rfl scal_33 (Inv.seg 0 hS rfl) rfl) (hI) ?_;clear hE a;intro a hE;refine do1 2 hE rfl ?_;refine o_call hE rfl rfl rfl rfl ent_67 (PutBytes_data hI (RB.nil _) (hk.mono (hD3.trans hD9)) (by simp;omega)) ?_;clear hI hE a;rintro r w ⟨D30,hD31,hI,hb32⟩ a hE;obtain ⟨A33,c34,rfl,_⟩:=hb32.slice;refine ⟨fun _=>(Inv.weaken hI hD31), ?_⟩;refine do1 4 hE rfl ?_;refine o_call hE rfl rfl rfl rfl ent_68 (Put_data (m:=0) hI hb32 (by simp only [List.length_append,List.length_nil,hz1];omega) (by omega) (by omega)) ?_;clear hI hE a;rintro r w ⟨D35,hD36,hI,hb37⟩ a hE;obtain ⟨A38,c39,rfl,_⟩:=hb37.slice;refine ⟨fun _=>(Inv.weaken hI (hD31.trans hD36)), ?_⟩;refine do1 7 hE rfl ?_;refine o_call hE rfl rfl rfl rfl ent_67 (PutBytes_spec hI hb37 (hv.mono (((hD3.trans hD9).trans hD31).trans hD36)) (by simp only [List.length_append,List.length_nil,hz1];omega)) ?_;clear hI hE a;rintro r w ⟨s43,hR40,hI⟩ a hE;obtain ⟨A41,c42,rfl,_⟩:=Row.slice hR40;refine ⟨fun _=>(Inv.weaken (hI.dropS [0]) (hD31.trans hD36)), ?_⟩;refine dp 8 hE rfl (p_assign rfl) (fun _=>(Inv.weaken (hI.dropS [0]) (hD31.trans hD36))) ?_;clear hE a;intro a hE;refine dp 9 hE rfl (p_assign rfl) (fun _=>(Inv.weaken (hI.dropS [0]) (hD31.trans hD36))) ?_;clear hE a;intro a hE;refine d_done (by kernel_rfl) ?_;refine gc 2 hE ?_;refine ret2 rfl hE rfl rfl ?_;refine ⟨_,(((hD3.trans hD9).trans hD31).trans hD36), .inl ⟨_,_,⟨by dsimp only;omega,by dsimp only;omega,by dsimp only;omega, .inr (by dsimp only;omega)⟩,rfl,hI.drop_at 1,Row.cast hR40 (by simp [Ent.enc,hadZ]) (by simp [Ent.enc,hadZ];try omega)⟩⟩
  refine go 18 hE hI ?_;clear hE a;intro a hE;refine ret2 rfl hE rfl rfl ?_;refine ⟨_,hD3, .inr ⟨?_,rfl,hI.drop⟩⟩;rintro ⟨q1,q2,q3,q4⟩;dsimp only at q1 q2 q3 q4
  first|omega|(rcases q4 with q4|q4;cases q4;omega)
 refine go 18 hE hI ?_;clear hE a;intro a hE;refine ret2 rfl hE rfl rfl ?_;refine ⟨_,(Le.refl _), .inr ⟨?_,rfl,hI.drop⟩⟩;rintro ⟨q1,q2,q3,q4⟩;dsimp only at q1 q2 q3 q4
 first|omega|(rcases q4 with q4|q4;cases q4;omega)
open Go
instance:Inhabited Ent:=⟨⟨0,0, [],false, []⟩⟩
def ueOf (e:Ent):Bs×Bs:=(keyL e.tx e.n,e.enc)
def befE (a b:Ent):Prop:=a.tx<b.tx∨(a.tx=b.tx∧a.n<b.n)
instance (a b:Ent):Decidable (befE a b):=inferInstanceAs (Decidable (_∨_))
def withE:List Ent→Ent→List Ent
 | [],e=> [e]
 |a::r,e=>if befE a e then a::withE r e else if a.tx=e.tx∧a.n=e.n then e::r else e::a::r
theorem with_mem {e:Ent}: ∀(l:List Ent) {a:Ent},a∈withE l e→a=e∨a∈l
 | [],a,h=>by simpa [withE] using h
 |x::r,a,h=>by
  rw [withE] at h;split at h
  ·rcases List.mem_cons.1 h with h|h
   ·exact .inr (by simp [h])
   rcases with_mem r h with h|h
   ·exact .inl h
   exact .inr (by simp [h])
  split at h
  ·rcases List.mem_cons.1 h with h|h
   ·exact .inl h
   exact .inr (by simp [h])
  rcases List.mem_cons.1 h with h|h
  ·exact .inl h
  exact .inr h
theorem with_ins {e:Ent} (he:e.Ok): ∀l:List Ent,(∀a∈l,a.Ok)→(withE l e).map ueOf=insKv (l.map ueOf) (keyL e.tx e.n) e.enc
 | [],_=>rfl
 |a::r,h=>by
  have ha:=h a (by simp);have ih:=with_ins he r (fun b hb=>h b (by simp [hb]));have h1:=ltB_key ha.1 he.1;have h2:=key_eq ha.1 he.1;rw [withE];show List.map ueOf (if befE a e then a::withE r e else if a.tx=e.tx∧a.n=e.n then e::r else e::a::r)=(if ltB (keyL a.tx a.n) (keyL e.tx e.n)=true then ueOf a::insKv (r.map ueOf) (keyL e.tx e.n) e.enc else if keyL a.tx a.n=keyL e.tx e.n then (keyL a.tx a.n,e.enc)::r.map ueOf else (keyL e.tx e.n,e.enc)::ueOf a::r.map ueOf);by_cases hb:befE a e
  ·have h3:ltB (keyL a.tx a.n) (keyL e.tx e.n)=true:=by rw [h1];exact hb
   rw [if_pos hb,if_pos h3,List.map_cons,ih]
  have h3: ¬ltB (keyL a.tx a.n) (keyL e.tx e.n)=true:=by rw [h1];exact hb
  rw [if_neg hb,if_neg h3];by_cases hs:a.tx=e.tx∧a.n=e.n
  ·have h4:keyL a.tx a.n=keyL e.tx e.n:=by rw [h2];exact hs
   rw [if_pos hs,if_pos h4,h4,List.map_cons];rfl
  have h4: ¬keyL a.tx a.n=keyL e.tx e.n:=by rw [h2];exact hs
  rw [if_neg hs,if_neg h4];rfl
theorem BDel_ok {w0 w:World} {D:Sto} {ss:List Seg} {sb sp:Seg} {vb vp:Value} {b b':Bt} {P:Pl} {res:Bool} (hI:Inv w0 D (sb::sp::ss) w) {ad:Nat→Addr} (hS:TSents D ad) (hB:BatchS D vb vp b sb) (hP:PoolS D vp P sp) (hpool:b.pool=P.f) {vk:Value} {key:Bs} (hk:RB D vk key) (hlen:b.recs.length≤1000000000 - 8000) (hok:b.delete key= .ok (res,b')) :
  Calls Tryz.prog 41 #[vb,vk] w (Ret fun r w'=>r= .tuple #[.bool res, .nilIface]∧ ∃D' sb' sp',Le D D'∧BatchS D' vb vp b' sb'∧PoolS D' vp P sp'∧Inv w0 D' (sb'::sp'::ss) w'):=by
 refine (BDelete_spec hI.merge hS (TreeS.join hB hP hpool) hk hlen).mono fun e w' h=> ?_;obtain ⟨r,he,h⟩:=h;refine ⟨r,he, ?_⟩;rcases h with ⟨res1,b1,h1,rfl,D',s',hD,hT,hI'⟩|⟨c,o,h1,_⟩
 ·rw [hok] at h1;injection h1 with h1;injection h1 with h1 h2;subst h1;subst h2
  obtain ⟨sb',sp',rfl,hB',hP',_⟩:=hT;exact ⟨rfl,D',sb',sp',hD,hB',hP',hI'.parted⟩
 rw [hok] at h1;cases h1
theorem Equal_spec {w0 w:World} {D:Sto} {ss:List Seg} (hI:Inv w0 D ss w) {va vb:Value} {ka kb:List Nat} (ha:RB D va ka) (hb:RB D vb kb) :
  Calls Tryz.prog 160 #[va,vb] w (Ret fun r w'=>r= .bool (decide (ka=kb))∧Inv w0 D ss w'):=by
 obtain ⟨A1,c2,rfl,_⟩:=ha.slice;obtain ⟨A3,c4,rfl,_⟩:=hb.slice;refine enter (N:=10) Tryz.func160 rfl rfl rfl ?_;intro a hE;refine go 5 hE hI ?_;clear hE a;intro a hE;refine zl hE (r_toString hI rfl ha Tryz.underlying33 Tryz.underlying5 Tryz.underlying9) ?_;clear hE a;intro a hE;refine zm hE ?_;clear hE a;intro a hE;refine zl hE (r_toString hI rfl hb Tryz.underlying33 Tryz.underlying5 Tryz.underlying9) ?_;clear hE a;intro a hE;refine zs hE (p_strEql rfl rfl (strOf_eq ha.lt hb.lt)) ?_;clear hE a;intro a hE;refine go 3 hE hI ?_;clear hE a;intro a hE;refine ret1 rfl hE rfl ?_;exact ⟨rfl,hI⟩
def UeR (D:Sto) (vs:List Value) (x:Ent):Prop:= ∃k v,vs= [.int .i64 x.tx, .int .i64 x.n,k, .bool x.had,v]∧RB D k x.key∧RB D v x.value
theorem UeR.keeps:Keeps UeR:=fun D D' vs x hD h=>by obtain ⟨k,v,rfl,h1,h2⟩:=h;exact ⟨k,v,rfl,h1.mono hD,h2.mono hD⟩
theorem UeR.one {D:Sto} {vs:List Value} {x:Ent} (h:UeR D vs x): ∀u∈vs,u.oneCell'=true:=by obtain ⟨k,v,rfl,h1,h2⟩:=h;obtain ⟨_,_,rfl,_⟩:=h1.slice;obtain ⟨_,_,rfl,_⟩:=h2.slice;intro u hu;simp only [List.mem_cons,List.not_mem_nil,or_false] at hu;rcases hu with rfl|rfl|rfl|rfl|rfl<;>rfl
open Go Go.ChangeMaps
instance lawfulBA:LawfulBEq ByteArray where
  eq_of_beq {a b} h:=by have h:a.data==b.data:=h;cases a;cases b;simp at h;simp [h]
  rfl {a}:=by show (a.data==a.data)=true;simp
def getS:List (ByteArray×Value)→ByteArray→Option Value
  | [],_=>none
  |(q,v)::r,k=>if q=k then some v else getS r k
def putS:List (ByteArray×Value)→ByteArray→Value→List (ByteArray×Value)
  | [],k,v=> [(k,v)]
  |(q,u)::r,k,v=>if q=k then (k,v)::r else (q,u)::putS r k v
theorem putS_keys: ∀(m:List (ByteArray×Value)) (k:ByteArray) (v:Value),(putS m k v).map (·.1)=if k∈m.map (·.1) then m.map (·.1) else m.map (·.1)++ [k]
  | [],k,v=>by simp [putS]
  |(q,u)::r,k,v=>by
    simp only [putS];by_cases h:q=k
    ·subst h;simp
    ·rw [if_neg h];simp only [List.map_cons,putS_keys r k v,List.mem_cons];by_cases hk:k∈r.map (·.1)
     ·rw [if_pos hk,if_pos (.inr hk)]
     ·rw [if_neg hk,if_neg]
      ·rfl
      ·rintro (e|e)
       ·exact h e.symm
       ·exact hk e
theorem getS_none {m:List (ByteArray×Value)} {k:ByteArray}:getS m k=none↔k ∉ m.map (·.1):=by
  induction m with
  |nil=>simp [getS]
  |cons p r ih=>
    obtain ⟨q,u⟩:=p;simp only [getS,List.map_cons,List.mem_cons,not_or];by_cases h:q=k
    ·subst h;simp
    ·rw [if_neg h,ih];constructor
     ·exact fun h2=>⟨fun e=>h e.symm,h2⟩
     ·exact fun h2=>h2.2
theorem getS_of_mem {m:List (ByteArray×Value)} (hn:(m.map (·.1)).Nodup) {k:ByteArray} {v:Value} (h:(k,v)∈m):getS m k=some v:=by
  induction m with
  |nil=>cases h
  |cons p r ih=>
    obtain ⟨q,u⟩:=p;simp only [List.map_cons,List.nodup_cons] at hn;simp only [getS];rcases List.mem_cons.1 h with h|h
    ·injection h with h1 h2;subst h1;subst h2;rw [if_pos rfl]
    ·rw [if_neg,ih hn.2 h];rintro rfl;exact hn.1 (List.mem_map_of_mem (f:=(·.1)) h)
def entS (p:ByteArray×Value):Value×Value:=(.string p.1,p.2)
structure StrMap (es:Array MapEntry) (clock:Nat) (m:List (ByteArray×Value)):Prop where
  eq:es.toList.map (fun e=>(e.key,e.val))=m.map entS
  nd:(m.map (·.1)).Nodup
  old: ∀e∈es.toList,e.born<clock
  born:(es.toList.map (·.born)).Nodup
theorem StrMap.empty:StrMap #[] 0 []:=⟨rfl,by simp,by simp,by simp⟩
theorem StrMap.size {es:Array MapEntry} {clock:Nat} {m:List (ByteArray×Value)} (h:StrMap es clock m):es.size=m.length:=by have:=congrArg List.length h.eq;simpa using this
def atS:List (ByteArray×Value)→ByteArray→Nat→Option (Nat×Value)
  | [],_,_=>none
  |(q,v)::r,k,i=>if q=k then some (i,v) else atS r k (i+1)
theorem find_str {d:TypeDesc} (hd:d= .string) (k:ByteArray): ∀(es:List MapEntry) (m:List (ByteArray×Value)) (i:Nat),es.map (fun e=>(e.key,e.val))=m.map entS→
    Instr.findNow d (.string k) es i=some (atS m k i)
  | [], [],i,_=>rfl
  | [],_::_,i,h=>by simp at h
  |_::_, [],i,h=>by simp at h
  |e::es,(q,v)::m,i,h=>by
    subst hd;simp only [List.map_cons,List.cons.injEq,entS,Prod.mk.injEq] at h;obtain ⟨⟨h1,h2⟩,h3⟩:=h;simp only [Instr.findNow,h1,h2,Instr.sameNow,if_true,atS];by_cases hk:q=k
    ·subst hk;simp
    ·have:(k==q)=false:=by simpa using fun e=>hk e.symm
     rw [this,if_neg hk];exact find_str rfl k es m (i+1) h3
theorem atS_get: ∀(m:List (ByteArray×Value)) (k:ByteArray) (i:Nat),(atS m k i).map (·.2)=getS m k
  | [],_,_=>rfl
  |(q,v)::r,k,i=>by
    simp only [atS,getS];by_cases h:q=k
    ·rw [if_pos h,if_pos h];rfl
    ·rw [if_neg h,if_neg h];exact atS_get r k (i+1)
theorem atS_spec: ∀(m:List (ByteArray×Value)) (k:ByteArray) (i j:Nat) (v:Value),atS m k i=some (j,v)→i≤j∧m[j - i]? =some (k,v)
  | [],_,_,_,_,h=>by cases h
  |(q,u)::r,k,i,j,v,h=>by
    simp only [atS] at h;split at h
    ·rename_i e;subst e;injection h with h;injection h with h1 h2;subst h1;subst h2
     simp
    ·obtain ⟨h1,h2⟩:=atS_spec r k (i+1) j v h;refine ⟨by omega, ?_⟩;rw [show j - i=(j - (i+1))+1 by omega,List.getElem?_cons_succ];exact h2
section
variable {P:Program} {ops:Array Oper} {Q:Exit→Act→World→Prop} {a:Act} {w0 w w':World} {D:Sto} {ss:List Seg} {o:Oper} {N:Nat} {env:Env} {K:Act→World→Prop}
def strKeyed (P:Program) (t:TypeId):Option TypeId:=match P.underlying t with
  |some (.map k e)=>match P.underlying k with
    |some .string=>some e
    |_=>none
  |_=>none
theorem strKeyed_spec {t e:TypeId} (h:strKeyed P t=some e): ∃k,P.underlying t=some (.map k e)∧P.underlying k=some .string:=by
  unfold strKeyed at h;split at h<;>try cases h
  rename_i k e' hk;split at h<;>try cases h
  rename_i hkd;exact ⟨k,hk,hkd⟩
theorem checkKey_str {k:TypeId} (hk:P.underlying k=some .string) (b:Bool) (n:Nat) (i:ByteArray): ∀w,(Instr.checkKey b (n+1) k (.string i)).run P w= .ok () w:=fun w=>by
  simp [Instr.checkKey,underlying,program,hk,Sem.run]
theorem findKey_str {k:TypeId} (hk:P.underlying k=some .string) {es:Array MapEntry} {clock:Nat} {m:List (ByteArray×Value)} (hm:StrMap es clock m) (i:ByteArray): ∀w,(Instr.findKey k (.string i) es.toList).run P w= .ok (atS m i 0) w:=fun w=>by
  simp [Instr.findKey,underlying,program,hk,Sem.run,find_str rfl i es.toList m 0 hm.eq]
theorem run_lookup_str {t e:TypeId} {b:Nat} {es:Array MapEntry} {clock:Nat} {m:List (ByteArray×Value)} {i:ByteArray} {z:Value} {ok:Bool} (ht:strKeyed P t=some e) (hb:w.heap[b]? =some (.map es clock)) (hm:StrMap es clock m)
    (hz:(P.info? e).bind (·.zero)=some z) :
    (Instr.lookup t (.map (some b)) (.string i) ok).run P w= .ok (if ok then .tuple #[(getS m i).getD z, .bool (getS m i).isSome] else (getS m i).getD z) w:=by
  obtain ⟨k,h1,h2⟩:=strKeyed_spec ht;obtain ⟨inf,hinf,hz'⟩:=Option.bind_eq_some_iff.1 hz;have hg:=atS_get m i 0;cases hat:atS m i 0 with
  |none=>
    rw [hat] at hg;simp only [Option.map_none] at hg;simp [Instr.lookup,run_underlying h1,run_getObj hb rfl,checkKey_str h2,findKey_str h2 hm,hat,zeroValue,typeInfo,hinf,hz',←hg]
  |some q=>
    rw [hat] at hg;simp only [Option.map_some] at hg;simp [Instr.lookup,run_underlying h1,run_getObj hb rfl,checkKey_str h2,findKey_str h2 hm,hat,←hg]
theorem s_lookupY {t e:TypeId} {x y:Operand} {b:Nat} {es:Array MapEntry} {clock:Nat} {m:List (ByteArray×Value)} {i:ByteArray} {z v:Value} (hx:ev env x=some (.map (some b))) (hy:ev env y=some (.string i)) (ht:strKeyed P t=some e)
    (hz:(P.info? e).bind (·.zero)=some z) (hb:w.heap[b]? =some (.map es clock)) (hm:StrMap es clock m) (hg:getS m i=some v):RunOp P env w (.lookup t x y true) (.tuple #[v, .bool true]):=fun _ a o hE ho=>by
  have h:=run_lookup_str (ok:=true) (i:=i) ht hb hm hz;rw [hg] at h;simp only [if_true,Option.getD_some,Option.isSome_some] at h;simp [execOp,ho,hE.eval hx,hE.eval hy,h]
theorem s_lookupN {t e:TypeId} {x y:Operand} {b:Nat} {es:Array MapEntry} {clock:Nat} {m:List (ByteArray×Value)} {i:ByteArray} {z:Value} (hx:ev env x=some (.map (some b))) (hy:ev env y=some (.string i)) (ht:strKeyed P t=some e)
    (hz:(P.info? e).bind (·.zero)=some z) (hb:w.heap[b]? =some (.map es clock)) (hm:StrMap es clock m) (hg:getS m i=none):RunOp P env w (.lookup t x y true) (.tuple #[z, .bool false]):=fun _ a o hE ho=>by
  have h:=run_lookup_str (ok:=true) (i:=i) ht hb hm hz;rw [hg] at h;simp only [if_true,Option.getD_none,Option.isSome_none] at h;simp [execOp,ho,hE.eval hx,hE.eval hy,h]
theorem put_mapS {es:Array MapEntry} {clock:Nat} {m:List (ByteArray×Value)} (hm:StrMap es clock m) (i:ByteArray) (v:Value) :
    (∀j u,atS m i 0=some (j,u)→StrMap (es.modify j fun e=>{e with key:= .string i,val:=v}) clock (putS m i v))∧(atS m i 0=none→StrMap (es.push {key:= .string i,val:=v,born:=clock}) (clock+1) (putS m i v)):=by
  constructor
  ·intro j u hj;obtain ⟨_,hmj⟩:=atS_spec m i 0 j u hj;simp only [Nat.sub_zero] at hmj;have hput: ∀(m:List (ByteArray×Value)) (s:Nat),atS m i s=some (j+s,u)→putS m i v=m.set j (i,v):=by
     clear hmj hj hm;intro m;induction m generalizing j with
     |nil=>intro s h;cases h
     |cons p r ih=>
       intro s h;obtain ⟨q,x⟩:=p;simp only [atS] at h;simp only [putS];split at h
       ·rename_i e;injection h with h;injection h with h1 _
        have:j=0:=by omega
        subst this;rw [if_pos e];rfl
       ·rename_i e;rw [if_neg e];obtain ⟨h1,_⟩:=atS_spec r i (s+1) _ u h;obtain ⟨j',rfl⟩: ∃j',j=j'+1:=⟨j - 1,by omega⟩;rw [ih j' (Nat.zero_le _) (s+1) (by rw [h];congr 2;omega)];rfl
   have hp:=hput m 0 hj;have hlen:=hm.size;have hjl:j<m.length:=(List.getElem?_eq_some_iff.1 hmj).1;have htl:(es.modify j fun e=>{e with key:= .string i,val:=v}).toList=es.toList.set j {(es[j]'(by omega)) with key:= .string i,val:=v}:=by
     apply List.ext_getElem?;intro q;simp only [Array.getElem?_toList,Array.getElem?_modify,List.getElem?_set,Array.length_toList];by_cases hq:j=q
     ·subst hq;simp [hlen,hjl]
     ·simp [hq]
   have hb:((es.toList.set j {(es[j]'(by omega)) with key:= .string i,val:=v}).map (·.born))=es.toList.map (·.born):=by
     rw [List.map_set];apply List.ext_getElem?;intro q;rw [List.getElem?_set];by_cases hq:j=q
     ·subst hq;simp [hlen,hjl]
     ·simp [hq]
   refine ⟨?_, ?_, ?_, ?_⟩
   ·rw [htl,List.map_set,hm.eq,hp,List.map_set];rfl
   ·rw [putS_keys,if_pos]
    ·exact hm.nd
    ·exact List.mem_map.2 ⟨_,List.mem_of_getElem? hmj,rfl⟩
   ·intro e he;rw [htl] at he;have:e.born∈(es.toList.set j {(es[j]'(by omega)) with key:= .string i,val:=v}).map (·.born):=List.mem_map_of_mem he;rw [hb] at this;obtain ⟨e',he',hbe⟩:=List.mem_map.1 this;rw [←hbe];exact hm.old e' he'
   ·rw [htl,hb];exact hm.born
  ·intro hn;have hg:getS m i=none:=by rw [←atS_get m i 0,hn];rfl
   have hk:=getS_none.1 hg;have hp: ∀(m:List (ByteArray×Value)),i ∉ m.map (·.1)→putS m i v=m++ [(i,v)]:=by
     intro m;induction m with
     |nil=>intro _;rfl
     |cons p r ih=>
       intro h;simp only [List.map_cons,List.mem_cons,not_or] at h;obtain ⟨q,x⟩:=p;simp only [putS];rw [if_neg (fun e=>h.1 e.symm),ih h.2];rfl
   refine ⟨?_, ?_, ?_, ?_⟩
   ·rw [hp m hk];simp [hm.eq,entS]
   ·rw [putS_keys,if_neg hk];rw [List.nodup_append];exact ⟨hm.nd,by simp,fun x hx y hy e=>by simp at hy;subst hy;subst e;exact hk hx⟩
   ·intro e he;simp only [Array.toList_push,List.mem_append,List.mem_singleton] at he;rcases he with he|rfl
    ·have:=hm.old e he;omega
    ·simp
   ·simp only [Array.toList_push,List.map_append,List.map_cons,List.map_nil];rw [List.nodup_append];refine ⟨hm.born,by simp,fun x hx y hy e=> ?_⟩;simp at hy;subst hy;subst e;obtain ⟨e',he',hb⟩:=List.mem_map.1 hx;have:=hm.old e' he';omega
theorem run_update_str {t e:TypeId} {b:Nat} {es:Array MapEntry} {clock:Nat} {m:List (ByteArray×Value)} {i:ByteArray} {v:Value} (ht:strKeyed P t=some e) (hb:w.heap[b]? =some (.map es clock)) (hm:StrMap es clock m) :
    ∃es' clock',StrMap es' clock' (putS m i v)∧(Instr.mapUpdate t (.map (some b)) (.string i) v).run P w= .ok () {w with heap:=w.heap.setIfInBounds b (.map es' clock')}:=by
  obtain ⟨k,h1,h2⟩:=strKeyed_spec ht;cases hat:atS m i 0 with
  |none=>
    exact ⟨_,_,(put_mapS hm i v).2 hat,by simp [Instr.mapUpdate,run_underlying h1,run_getObj hb rfl,checkKey_str h2,findKey_str h2 hm,hat,run_setObj hb rfl]⟩
  |some q=>
    obtain ⟨j,u⟩:=q;obtain ⟨_,hmj⟩:=atS_spec m i 0 j u hat;simp only [Nat.sub_zero] at hmj;have hjl:j<m.length:=(List.getElem?_eq_some_iff.1 hmj).1;have hkey:((es[j]?).map (·.key)).getD (.string i)= .string i:=by
      have h3:(es.toList.map (fun e=>(e.key,e.val)))[j]? =some (.string i,u):=by rw [hm.eq,List.getElem?_map,hmj];rfl
      rw [List.getElem?_map] at h3;cases h4:es[j]? with
      |none=>rfl
      |some x=>
        rw [Array.getElem?_toList,h4] at h3;simp at h3;simp [h3.1]
    have hstay: ∀w,(Instr.keyThatStays (.string i) (.string i)).run P w= .ok (.string i) w:=fun w=>by
      simp [Instr.keyThatStays,Instr.sameBits]
    exact ⟨_,_,(put_mapS hm i v).1 j u hat,by simp [Instr.mapUpdate,run_underlying h1,run_getObj hb rfl,checkKey_str h2,findKey_str h2 hm,hat,hkey,hstay,run_setObj hb rfl]⟩
theorem so_mapUpdate {t e:TypeId} {x y u:Operand} {b:Nat} {es:Array MapEntry} {clock:Nat} {m:List (ByteArray×Value)} {i:ByteArray} {v:Value} (j:Nat) (hE:EnvOk N env a) (hI:Inv w0 D ss w) (hd:o.dst=none)
    (ho:o.op= .mapUpdate t x y u∨o.op= .insert t x y u) (hx:ev env x=some (.map (some b))) (hy:ev env y=some (.string i)) (hu:ev env u=some v) (ht:strKeyed P t=some e) (hj:ss[j]? =some [(b, .map es clock)]) (hm:StrMap es clock m)
    (k: ∀es' clock' w',StrMap es' clock' (putS m i v)→Inv w0 D (ss.set j [(b, .map es' clock')]) w'→K a w'):o.wp P a w K Q:=by
  have hb:=hI.seg j hj;obtain ⟨es',clock',hm',hr⟩:=run_update_str (P:=P) (i:=i) (v:=v) ht hb hm;have hrun:(execOp a.eval o).run P w= .ok .skip {w with heap:=w.heap.setIfInBounds b (.map es' clock')}:=by rcases ho with ho|ho<;>simp [execOp,ho,hE.eval hx,hE.eval hy,hE.eval hu,hr]
  refine o_skip hrun ?_;rw [hd];exact k _ _ _ hm' (hI.turn_at j hj)
structure VisS (es:Array MapEntry) (seen:Array Nat) (m vis:List (ByteArray×Value)):Prop where
  sub: ∀p∈vis,p∈m
  nd:(vis.map (·.1)).Nodup
  iff: ∀e∈es.toList,∀p,(e.key,e.val)=entS p→(seen.contains e.born=true↔p∈vis)
def LastS (es:Array MapEntry) (seen:Array Nat) (p:ByteArray×Value):Prop:= ∃e∈es.toList,seen.back? =some e.born∧(e.key,e.val)=entS p
theorem VisS.start (es:Array MapEntry) (m:List (ByteArray×Value)):VisS es #[] m []:=⟨by simp,by simp,fun e _ p _=>by simp⟩
theorem so_next {d:Nat} {x:Operand} {b r:Nat} {es:Array MapEntry} {clock:Nat} {m vis:List (ByteArray×Value)} {seen:Array Nat} (j q:Nat) (hE:EnvOk N env a) (hI:Inv w0 D ss w) (hd:o.dst=some d) (hN:Nat.blt d N=true) (ho:o.op= .next x false)
    (hx:ev env x=some (.pointer (some ⟨r,0,none⟩))) (hj:ss[j]? =some [(b, .map es clock)]) (hq:ss[q]? =some [(r, .mapIter (some b) clock seen clock)]) (hm:StrMap es clock m) (hv:VisS es seen m vis)
    (over:(∀p∈m,p∈vis)→ ∀a',EnvOk N ((d, .tuple #[.bool false])::env) a'→K a' w)
    (step: ∀p,p∈m→p ∉ vis→ ∀seen' w',VisS es seen' m (p::vis)→LastS es seen' p→Inv w0 D (ss.set q [(r, .mapIter (some b) clock seen' clock)]) w'→
      ∀a',EnvOk N ((d, .tuple #[.bool true, .string p.1,p.2])::env) a'→K a' w'):o.wp P a w K Q:=by
  have hb:=hI.seg j hj;have hr:=hI.seg q hq;have hent: ∀e∈es.toList,∃p,p∈m∧(e.key,e.val)=entS p:=by intro e he;have h1:(e.key,e.val)∈es.toList.map (fun e=>(e.key,e.val)):=List.mem_map_of_mem (f:=fun e=>(e.key,e.val)) he;rw [hm.eq] at h1;obtain ⟨p,hp,hpe⟩:=List.mem_map.1 h1;exact ⟨p,hp,hpe.symm⟩
  have hmem: ∀p∈m,∃e∈es.toList,(e.key,e.val)=entS p:=by intro p hp;have h1:entS p∈m.map entS:=List.mem_map_of_mem hp;rw [←hm.eq] at h1;obtain ⟨e,he,hee⟩:=List.mem_map.1 h1;exact ⟨e,he,hee⟩
  have einj: ∀p p':ByteArray×Value,entS p=entS p'→p=p':=by intro p p' h;simp only [entS,Prod.mk.injEq,Value.string.injEq] at h;exact Prod.ext h.1 h.2
  rcases run_next_at (P:=P) w o.type r b clock clock seen es clock hr hb hm.old (Nat.le_refl _) with ⟨h0,hrun⟩|⟨e,he,w1,hw1,hrun⟩
  ·have hrun':(execOp a.eval o).run P w= .ok (.value (.tuple #[.bool false])) w:=by simp [execOp,ho,hE.eval hx,hrun]
   have hall: ∀p∈m,p∈vis:=fun p hp=>by
     obtain ⟨e,he,hee⟩:=hmem p hp;refine (hv.iff e he p hee).1 ?_;have hl:leftOf es seen= #[]:=Array.eq_empty_of_size_eq_zero h0;unfold leftOf at hl;rw [Array.filter_eq_empty_iff] at hl;have:=hl e (by simpa using he);simpa using this
   exact o_val hrun' (by rw [hd];exact over hall _ (hE.put hN _))
  ·have hrun':(execOp a.eval o).run P w= .ok (.value (.tuple #[.bool true,e.key,e.val])) (setBlock w1 r (.mapIter (some b) clock (seen.push e.born) clock)):=by simp [execOp,ho,hE.eval hx,hrun]
   have he':e∈es.toList∧seen.contains e.born=false:=by unfold leftOf at he;simp only [Array.toList_filter,List.mem_filter,Bool.not_eq_true'] at he;exact he
   obtain ⟨p,hp,hpe⟩:=hent e he'.1;have hnv:p ∉ vis:=fun h=>by
     have:=(hv.iff e he'.1 p hpe).2 h;rw [he'.2] at this;cases this
   have hI1:Inv w0 D ss w1:=by
     rcases hw1 with rfl|rfl
     ·exact hI
     ·exact hI.drawn _
   have hkv:e.key= .string p.1∧e.val=p.2:=by simpa [entS] using hpe
   refine o_val hrun' ?_;rw [hd,hkv.1,hkv.2];refine step p hp hnv (seen.push e.born) _ ⟨?_, ?_, ?_⟩ ⟨e,he'.1,by simp,hpe⟩ (hI1.turn_at q hq) _ (hE.put hN _)
   ·intro x hx';rcases List.mem_cons.1 hx' with rfl|hx'
    ·exact hp
    ·exact hv.sub x hx'
   ·simp only [List.map_cons,List.nodup_cons];refine ⟨fun hmem'=> ?_,hv.nd⟩;obtain ⟨y,hy,hye⟩:=List.mem_map.1 hmem';have h1:=getS_of_mem hm.nd (hv.sub y hy);have h2:=getS_of_mem hm.nd hp;rw [hye] at h1;rw [h1] at h2;injection h2 with h2
    have hyp:y=p:=Prod.ext hye h2;exact hnv (hyp▸hy)
   ·intro e2 he2 p2 hpe2;rw [Array.contains_push];simp only [Bool.or_eq_true,beq_iff_eq,List.mem_cons];constructor
    ·rintro (h|h)
     ·right;exact (hv.iff e2 he2 p2 hpe2).1 h
     ·left;have hee:e2=e:=by
        have:=find_born e2 es.toList hm.born he2;have h3:=find_born e es.toList hm.born he'.1;rw [h] at this;rw [this] at h3;exact Option.some.inj h3
      subst hee;exact einj _ _ (hpe2.symm.trans hpe)
    ·rintro (h|h)
     ·right;subst h;have h1: ∀(l:List MapEntry) (m:List (ByteArray×Value)),l.map (fun e=>(e.key,e.val))=m.map entS→(m.map (·.1)).Nodup→e∈l→e2∈l→e2=e:=by
        intro l;induction l with
        |nil=>intro m _ _ h;cases h
        |cons x l ih=>
          intro m h hn h1 h2;cases m with
          |nil=>simp at h
          |cons y m=>
            simp only [List.map_cons,List.cons.injEq,List.nodup_cons] at h hn;have no: ∀z∈l,(z.key,z.val)=entS p2→(x.key,x.val)=entS p2→False:=by intro z hz h3 h4;have h5:(z.key,z.val)∈l.map (fun e=>(e.key,e.val)):=List.mem_map_of_mem (f:=fun e=>(e.key,e.val)) hz;rw [h.2,h3] at h5;obtain ⟨y',hy',hy2⟩:=List.mem_map.1 h5;rw [einj _ _ hy2] at hy';rw [h.1] at h4;rw [einj _ _ h4] at hn;exact hn.1 (List.mem_map_of_mem (f:=(·.1)) hy')
            rcases List.mem_cons.1 h1 with g1|g1<;>rcases List.mem_cons.1 h2 with g2|g2
            ·rw [g1,g2]
            ·exact (no _ g2 hpe2 (by rw [←g1];exact hpe)).elim
            ·exact (no _ g1 hpe (by rw [←g2];exact hpe2)).elim
            ·exact ih m h.2 hn.2 g1 g2
      exact congrArg _ (h1 es.toList m hm.eq hm.nd he'.1 he2)
     ·left;exact (hv.iff e2 he2 p2 hpe2).2 h
theorem sr_entry {x:Operand} {b r clock:Nat} {es:Array MapEntry} {m:List (ByteArray×Value)} {seen:Array Nat} {p:ByteArray×Value} (hx:ev env x=some (.pointer (some ⟨r,0,none⟩))) (hb:w.heap[b]? =some (.map es clock))
    (hr:w.heap[r]? =some (.mapIter (some b) clock seen clock)) (hm:StrMap es clock m) (hl:LastS es seen p):RunOp P env w (.entry x) (.tuple #[.string p.1,p.2]):=fun _ a o hE ho=>by
  obtain ⟨e,he,hbk,hpe⟩:=hl;have hkv:e.key= .string p.1∧e.val=p.2:=by simpa [entS] using hpe
  have hf:es.find? (·.born==e.born)=some e:=by rw [←Array.find?_toList];exact find_born e es.toList hm.born he
  have hrun:(Instr.entry (.pointer (some ⟨r,0,none⟩))).run P w= .ok (.tuple #[e.key,e.val]) w:=by simp [Instr.entry,run_getObj hr rfl,run_getObj hb rfl,hbk,hf]
  simp [execOp,ho,hE.eval hx,hrun,hkv.1,hkv.2]
end
end Go.Proofs.YtkknmpkcfpdllaaGreatDoor.B
