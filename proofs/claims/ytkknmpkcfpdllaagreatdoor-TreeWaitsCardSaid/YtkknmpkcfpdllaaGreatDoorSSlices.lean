/- A program logic over the model: what is owned, what is written no more, and one lemma for each kind of step. -/
import Derived.Test.YtkknmpkcfpdllaaGreatDoorTCheckG
import Derived.Test.YtkknmpkcfpdllaaGreatDoorTFacts
import Derived.Test.YtkknmpkcfpdllaaGreatDoorTValuesP
import Derived.Test.YtkknmpkcfpdllaaGreatDoorTTree7
import Derived.Test.YtkknmpkcfpdllaaGreatDoorTTreeLaid
import Derived.Test.YtkknmpkcfpdllaaGreatDoorTDAv
import Derived.Test.YtkknmpkcfpdllaaGreatDoorTTreeRel
import Derived.Test.YtkknmpkcfpdllaaGreatDoorSLogB
import Derived.Test.YtkknmpkcfpdllaaGreatDoorSLaid
import Derived.Deep.Slices
import Derived.Deep.Strs
namespace Go.Proofs.YtkknmpkcfpdllaaGreatDoor.B
open Go Go.Proofs
set_option linter.unusedVariables false
set_option linter.unusedSimpArgs false
set_option maxRecDepth 20000
set_option maxHeartbeats 8000000
theorem lit_data {w0 w:World} {D:Sto} {ss:List Seg} {b T:Nat} {fr:Nat×Nat} (bs:List Nat) (i:Nat) (hI:Inv w0 D ss w) (hi:ss[i]? =some [(b, .cells (bytesV bs).toArray T fr)]) (hb: ∀x∈bs,x<256) :
  ∃D',Le D D'∧Inv w0 D' (ss.eraseIdx i) w∧RB D' (.slice (some ⟨b,0,none⟩) bs.length bs.length) bs:=by
 obtain ⟨h1,h2⟩:=hI.shut_at i hi;exact ⟨_,h2,h1,RB.lit hb⟩
theorem Inv.part {w0 w:World} {D:Sto} {ss:List Seg} {s1 s2:Seg} (h:Inv w0 D ((s1++s2)::ss) w):Inv w0 D (s1::s2::ss) w:=h.perm (List.Perm.of_eq (by simp))
theorem empty_spec {w0 w:World} {D:Sto} {ss:List Seg} (hI:Inv w0 D ss w) {ad:Nat→Addr} (hS:TSents D ad) :
  Calls Tryz.prog 40 #[] w (Ret fun r w'=> ∃D' s q,Le D D'∧r= .tuple #[.pointer (some ⟨q,0,none⟩), .int .i64 4]∧PoolS D' (.pointer (some ⟨q,0,none⟩)) E0 s∧Inv w0 D' (s::ss) w'):=by
 refine enter (N:=18) Tryz.func40 rfl rfl rfl ?_;intro a hE;refine go 5 hE hI ?_;clear hE a;intro a hE;refine l_step rfl (o_call hE rfl rfl rfl rfl ent_14 (PoolNew_spec hI) ?_);clear hI hE a;rintro r w ⟨s1,hP2,hI⟩ a hE;obtain ⟨bp3,hbp⟩:=hP2.ptr;subst hbp;refine go 5 hE hI ?_;clear hE a;intro a hE;refine zs hE (p_eq rfl rfl (g_none rfl) (e_ptrNil Tryz.underlying26 rfl) rfl rfl) ?_;clear hE a;intro a hE;refine go 6 hE hI ?_;clear hE a;intro a hE;refine l_step rfl (o_call hE rfl rfl rfl rfl ent_16 (Make_spec hI) ?_);clear hI hE a;rintro r w ⟨D4,hD5,hI,hL6⟩ a hE;obtain ⟨A7,c8,rfl,_⟩:=hL6.slice;refine l_step rfl (o_call hE rfl rfl rfl rfl ent_42 (laid_spec hI (hP2.mono hD5) (hS.mono hD5) hL6 (n:=1) (by omega) (by omega) (by show (3:Nat)≤_;omega)) ?_);clear hI hE a;rintro r w h a hE;rcases h with ⟨D9,s10,P11,hD12,hP13,hI,⟨m14,hla15,rfl⟩|⟨hla15,m14,rfl⟩⟩
 ·rw [E0_laid] at hla15;injection hla15 with hla15
  injection hla15 with hz1 hz2
  subst hz1;subst hz2;refine go 9 hE hI ?_;clear hE a;intro a hE;refine zs hE (p_not rfl) ?_;clear hE a;intro a hE;refine go 11 hE hI ?_;clear hE a;intro a hE;refine ret2 rfl hE rfl rfl ?_;exact ⟨_,_,_,(hD5.trans hD12),rfl,hP13,hI⟩
 exfalso;rw [E0_laid] at hla15;cases hla15
theorem first21_spec {w0 w:World} {D:Sto} {ss:List Seg} (hI:Inv w0 D ss w) {ad:Nat→Addr} (hS:TSents D ad) :
  Calls Tryz.prog 38 #[] w (Ret fun r w'=> ∃D',Le D D'∧Inv w0 D' ss w'∧r= .bool true):=by
 refine enter (N:=47) Tryz.func38 rfl rfl rfl ?_;intro a hE;refine go 4 hE hI ?_;clear hE a;intro a hE;refine l_step rfl (o_call hE rfl rfl rfl rfl ent_40 (empty_spec hI hS) ?_);clear hI hE a;rintro r w ⟨D1,s2,q3,hD4,rfl,hP5,hI⟩ a hE;refine go 9 hE hI ?_;clear hE a;intro a hE;refine zs hE (p_eq rfl rfl (g_none rfl) (e_ptrNil Tryz.underlying26 rfl) rfl rfl) ?_;clear hE a;intro a hE;refine go 6 hE hI ?_;clear hE a;intro a hE;refine l_step rfl (o_call hE rfl rfl rfl rfl ent_17 (New_spec hI E0 (some ⟨q3,0,none⟩)) ?_);clear hI hE a;rintro r w ⟨sb6,hB7,hI⟩ a hE;obtain ⟨bb8,hvb⟩:=BatchS.ptr hB7;subst hvb;refine go 2 hE hI ?_;clear hE a;intro a hE;refine wp_seq ?_;refine wp_seq ?_;replace hI:=hI.bring 1;replace hI:=hI.bring 1;replace hI:=hI.merge;have hT9:=TreeS.join hB7 hP5 rfl;refine go 2 hE hI ?_;clear hE a;intro a hE;refine zs hE (p_eq rfl rfl (g_none rfl) (e_ptrNil Tryz.underlying31 rfl) rfl rfl) ?_;clear hE a;intro a hE;refine go 2 hE hI ?_;clear hE a;intro a hE;refine l_go hE rfl (f_lit (vs:= [(0,_)]) (l:= [_]) hE hI rfl rfl rfl rfl Tryz.underlying33 zs_5 rfl rfl rfl ?_);clear hI hE a w;intro a b10 w hE hI;refine l_go hE rfl (f_lit (vs:= [(0,_)]) (l:= [_]) hE hI rfl rfl rfl rfl Tryz.underlying33 zs_5 rfl rfl rfl ?_);clear hI hE a w;intro a b11 w hE hI;obtain ⟨D12,hD13,hIa,hb14⟩:=lit_data [1] 1 hI rfl (by simp);replace hI:=hIa;clear hIa;(try simp only [nrm,Value.cells] at hI);obtain ⟨D15,hD16,hIa,hb17⟩:=lit_data [2] 0 hI rfl (by simp);replace hI:=hIa;clear hIa;(try simp only [nrm,Value.cells] at hI);obtain ⟨b9,hb9,hg9⟩:=first_put;refine l_go hE rfl (o_call hE rfl rfl rfl rfl ent_21 (BPut_spec (key:= [1]) (val:= [2]) hI (hS.mono ((hD4.trans hD13).trans hD16)) (hT9.mono (hD13.trans hD16)) (hb14.mono hD16) hb17 (by show (0:Nat)≤_;omega)) ?_);clear hI hE a;rintro r w h a hE;rcases h with ⟨b18,hx19,rfl,D20,s21,hD22,hT23,hI⟩|⟨c24,o25,hbad,rfl,D26,s27,hD28,hT29,hI⟩
 ·rw [hb9] at hx19;injection hx19 with hx19
  subst hx19;refine go 8 hE hI ?_;clear hE a;intro a hE;refine l_step rfl (f_lit (vs:= [(0,_)]) (l:= [_]) hE hI rfl rfl rfl rfl Tryz.underlying33 zs_5 rfl rfl rfl ?_);clear hI hE a w;intro a b30 w hE hI;obtain ⟨D31,hD32,hIa,hb33⟩:=lit_data [1] 0 hI rfl (by simp);replace hI:=hIa;clear hIa;(try simp only [nrm,Value.cells] at hI);refine l_step rfl (o_call hE rfl rfl rfl rfl ent_94 (BGet_spec (key:= [1]) hI (hS.mono ((((hD4.trans hD13).trans hD16).trans hD22).trans hD32)) (hT23.mono hD32) hb33) ?_);clear hI hE a;rintro r w h a hE;rcases h with ⟨res34,hx35,D36,vr37,hD38,rfl,hr39,hT40,hI⟩|⟨c41,o42,hbad,rfl,D43,s44,hD45,hT46,hI⟩
  ·rw [hg9] at hx35;injection hx35 with hx35
   subst hx35;replace hr39:RB D36 vr37 [2]:=hr39;have hl2:([2]:List Nat).length=1:=rfl;obtain ⟨A47,c48,rfl,_⟩:=hr39.slice;refine go 16 hE hI ?_;clear hE a;intro a hE;refine gs hE (p_len rfl rfl Tryz.underlying33) ?_;clear hE a;intro a hE;refine gs hE (p_cmp rfl rfl (eql_y (rfl))) ?_;clear hE a;intro a hE;refine go 3 hE hI ?_;clear hE a;intro a hE;obtain ⟨b_49,o_49,cs_49,T_49,fr_49,rfl,hb_49,hc_49⟩:=hr39.at_ (by simp);refine gs hE (p_indexAddr rfl rfl Tryz.underlying33 sz_5 (by omega) (by show (0:Int)<((1:Nat):Int);omega) rfl) ?_;clear hE a;intro a hE;refine gl hE (r_load rfl scal_5 (hI.data _ _ (hb_49)) (RB.cell hc_49 (by omega) (by omega))) ?_;clear hE a;intro a hE;refine gs hE (p_cmp rfl rfl (eql_y (rfl))) ?_;clear hE a;intro a hE;refine go 4 hE hI ?_;clear hE a;intro a hE;refine ret1 rfl hE rfl ?_;exact ⟨_,(((((hD4.trans hD13).trans hD16).trans hD22).trans hD32).trans hD38),hI.drop,rfl⟩
  exfalso;rw [hg9] at hbad;cases hbad
 exfalso;rw [hb9] at hbad;cases hbad
theorem BDel_ok {w0 w:World} {D:Sto} {ss:List Seg} {sb sp:Seg} {vb vp:Value} {b b':Bt} {P:Pl} {res:Bool} (hI:Inv w0 D (sb::sp::ss) w) {ad:Nat→Addr} (hS:TSents D ad) (hB:BatchS D vb vp b sb) (hP:PoolS D vp P sp) (hpool:b.pool=P.f) {vk:Value} {key:Bs} (hk:RB D vk key) (hlen:b.recs.length≤1000000000 - 8000) (hok:b.delete key= .ok (res,b')) :
  Calls Tryz.prog 41 #[vb,vk] w (Ret fun r w'=>r= .tuple #[.bool res, .nilIface]∧ ∃D' sb' sp',Le D D'∧BatchS D' vb vp b' sb'∧PoolS D' vp P sp'∧Inv w0 D' (sb'::sp'::ss) w'):=by
 refine (BDelete_spec hI.merge hS (TreeS.join hB hP hpool) hk hlen).mono fun e w' h=> ?_;obtain ⟨r,he,h⟩:=h;refine ⟨r,he, ?_⟩;rcases h with ⟨res1,b1,h1,rfl,D',s',hD,hT,hI'⟩|⟨c,o,h1,_⟩
 ·rw [hok] at h1;injection h1 with h1;injection h1 with h1 h2;subst h1;subst h2
  obtain ⟨sb',sp',rfl,hB',hP',_⟩:=hT;exact ⟨rfl,D',sb',sp',hD,hB',hP',hI'.parted⟩
 rw [hok] at h1;cases h1
theorem BPut_no {w0 w:World} {D:Sto} {ss:List Seg} {sb sp:Seg} {vb vp:Value} {b:Bt} {P:Pl} {c:Nat} (hI:Inv w0 D (sb::sp::ss) w) {ad:Nat→Addr} (hS:TSents D ad) (hB:BatchS D vb vp b sb) (hP:PoolS D vp P sp) (hpool:b.pool=P.f) {vk vv:Value} {key val:Bs} (hk:RB D vk key) (hv:RB D vv val) (hlen:b.recs.length≤1000000000 - 8000) (hno:b.put key val= .fail c none) :
  Calls Tryz.prog 21 #[vb,vk,vv] w (Ret fun r w'=>r=errV ad c∧ ∃D' sb' sp',Le D D'∧BatchS D' vb vp b sb'∧PoolS D' vp P sp'∧Inv w0 D' (sb'::sp'::ss) w'):=by
 refine (BPut_spec hI.merge hS (TreeS.join hB hP hpool) hk hv hlen).mono fun e w' h=> ?_;obtain ⟨r,he,h⟩:=h;refine ⟨r,he, ?_⟩;rcases h with ⟨b1,h1,_⟩|⟨c',o,h1,rfl,D',s',hD,hT,hI'⟩
 ·rw [hno] at h1;cases h1
 rw [hno] at h1;injection h1 with h1 h2;subst h1;subst h2
 obtain ⟨sb',sp',rfl,hB',hP',_⟩:=hT;exact ⟨rfl,D',sb',sp',hD,hB',hP',hI'.parted⟩
theorem BDel_no {w0 w:World} {D:Sto} {ss:List Seg} {sb sp:Seg} {vb vp:Value} {b:Bt} {P:Pl} {c:Nat} (hI:Inv w0 D (sb::sp::ss) w) {ad:Nat→Addr} (hS:TSents D ad) (hB:BatchS D vb vp b sb) (hP:PoolS D vp P sp) (hpool:b.pool=P.f) {vk:Value} {key:Bs} (hk:RB D vk key) (hlen:b.recs.length≤1000000000 - 8000) (hno:b.delete key= .fail c none) :
  Calls Tryz.prog 41 #[vb,vk] w (Ret fun r w'=>r= .tuple #[.bool false,errV ad c]∧ ∃D' sb' sp',Le D D'∧BatchS D' vb vp b sb'∧PoolS D' vp P sp'∧Inv w0 D' (sb'::sp'::ss) w'):=by
 refine (BDelete_spec hI.merge hS (TreeS.join hB hP hpool) hk hlen).mono fun e w' h=> ?_;obtain ⟨r,he,h⟩:=h;refine ⟨r,he, ?_⟩;rcases h with ⟨res,b1,h1,_⟩|⟨c',o,h1,rfl,D',s',hD,hT,hI'⟩
 ·rw [hno] at h1;cases h1
 rw [hno] at h1;injection h1 with h1 h2;subst h1;subst h2
 obtain ⟨sb',sp',rfl,hB',hP',_⟩:=hT;exact ⟨rfl,D',sb',sp',hD,hB',hP',hI'.parted⟩
theorem rightK_yes {key:Bs} (h0: ¬(key.length:Int)<1) (h: ¬(key.length:Int)>32):rightK key=true:=by rw [rightK,decide_eq_true_eq];omega
def BsR (D:Sto) (vs:List Value) (x:Bs):Prop:= ∃v,vs= [v]∧RB D v x
theorem BsR.keeps:Keeps BsR:=fun D D' vs x hD h=>by obtain ⟨v,rfl,h⟩:=h;exact ⟨v,rfl,h.mono hD⟩
open Go Go.Deep Go.ChangeShapes Go.WideShapes Go.ChangeAt Go.RowKit
section
variable {H:Type} {enc:TypeId×Value→H} {P:Program} {W:World} {α:Type} {size:Nat} {R:Sto→List Value→α→Prop}
theorem open_slcT [Inhabited α] {base:Nat} {spare:Nat→Bool} {held:Bool} {fuel:Nat} {t e:TypeId} {v:Value} {y:DataW H×List MemPlace} (ht:P.underlying t=some (.slice e)) (hc:P.cellsOf e=size) (h0:0<size)
    (hel: ∀n cs z,DataW.trod enc P W base spare held n e cs=some z→cs.length=size→ ∃x,R (fun b=>W.heap[b]?) cs x)
    (hf:DataW.trod enc P W base spare held fuel t [v]=some y): ∃l:List α,DR size R (fun b=>W.heap[b]?) v l∧l.length≤maxLen:=by
  rcases open_slice ht hf with ⟨hcs,_⟩|⟨x,len,cap,m,n,D,Pl,hcs,_,hl,hm,hmm,_,hx⟩
  ·obtain rfl:v= .slice none 0 0:=by simpa using hcs
   exact ⟨[],DR.nil size R _,by simp [maxLen]⟩
  ·obtain rfl:v= .slice (some x) len cap:=by simpa using hcs
   have hlm:len≤m:=by rw [hmm];split<;>omega
   rw [hc] at hx;obtain ⟨f,hfv⟩: ∃f:Nat→List Value×α,∀i,i<m→W.cells? base (x.add (i*size)) size=some (f i).1∧R (fun b=>W.heap[b]?) (f i).1 (f i).2:=by
     have key: ∀i,∃p:List Value×α,i<m→W.cells? base (x.add (i*size)) size=some p.1∧R (fun b=>W.heap[b]?) p.1 p.2:=by
       intro i;by_cases hi:i<m
       ·obtain ⟨cs,h1,h2⟩:=hx i hi;obtain ⟨z,hz⟩:=hel n cs _ h2 (World.cells?_some h1).2.1;exact ⟨(cs,z),fun _=>⟨h1,hz⟩⟩
       ·exact ⟨([],default),fun h=>absurd h hi⟩
     exact ⟨fun i=>(key i).choose,fun i hi=>(key i).choose_spec hi⟩
   have hln:((List.range len).map fun i=>(f i).2).length=len:=by simp
   refine ⟨(List.range len).map fun i=>(f i).2,⟨some x,cap,by rw [hln],by rw [hln];exact hl,by simp,fun hne=> ?_⟩,by rw [hln];omega⟩;have hlen:0<len:=by
     rcases Nat.eq_zero_or_pos len with h1|h1
     ·subst h1;simp at hne
     ·exact h1
   have h1:=(World.cells?_some (hfv 0 (by omega)).1).2;have h2:=h1.2 0 h0;obtain ⟨u,hu⟩: ∃u,(f 0).1[0]? =some u:=⟨_,List.getElem?_eq_getElem (by rw [h1.1];exact h0)⟩;rw [hu] at h2;obtain ⟨b,off,sp⟩:=x;have hsp:sp=none:=by
     cases sp with
     |none=>rfl
     |some z=>
       exfalso;rw [Nat.zero_mul] at h2;simp only [World.cell?,Addr.add,if_true] at h2;split at h2<;>simp at h2
   subst hsp;rw [add_plain,add_plain] at h2;simp only [World.cell?] at h2;split at h2
   ·rename_i cs T fr hb;refine ⟨b,off,cs,T,fr,rfl,hb,fun i y hy=> ?_⟩;have hi:i<len:=by
      have:=(List.getElem?_eq_some_iff.1 hy).1;rw [hln] at this;exact this
    have hyf:y=(f i).2:=by rw [List.getElem?_map,List.getElem?_range hi] at hy;simpa using hy.symm
    subst hyf;obtain ⟨g1,g2⟩:=hfv i (by omega);have g3:=World.cells?_some g1;refine ⟨(f i).1,g3.2.1,g2,fun j u hj=> ?_⟩;have hjl:j<size:=by have:=(List.getElem?_eq_some_iff.1 hj).1;rw [g3.2.1] at this;exact this
    have g4:=g3.2.2 j hjl;rw [add_plain,add_plain,hj] at g4;simp only [World.cell?] at g4;rw [hb] at g4;simpa using g4
   ·cases h2
theorem open_slc [Inhabited α] {b0 base:Nat} {spare:Nat→Bool} {held:Bool} {t e:TypeId} {v:Value} {d:DataW H} {ps:List MemPlace} (ht:P.underlying t=some (.slice e)) (hc:P.cellsOf e=size) (h0:0<size)
    (hel: ∀n cs z,DataW.trod enc P W base spare held n e cs=some z→cs.length=size→ ∃x,R (fun b=>W.heap[b]?) cs x)
    (hv:Value.okWide P W .any b0 t v) (h:DataW.Trod enc P W base spare held t v d ps): ∃l:List α,DR size R (fun b=>W.heap[b]?) v l∧l.length≤maxLen:=by
  obtain ⟨a,len,cap,rfl⟩:=okWide_slice ht hv;obtain ⟨fuel,hf⟩:=h;exact open_slcT ht hc h0 hel hf
end
end Go.Proofs.YtkknmpkcfpdllaaGreatDoor.B
