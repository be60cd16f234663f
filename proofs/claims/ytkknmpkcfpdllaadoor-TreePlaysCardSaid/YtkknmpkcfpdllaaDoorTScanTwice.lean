/- What functions of the program compute, each function once: steps over the model, and the plain law of it. -/
import Derived.Test.YtkknmpkcfpdllaaDoorTCheckA
import Derived.Test.YtkknmpkcfpdllaaDoorTFirst
import Derived.Test.YtkknmpkcfpdllaaDoorTTreeChain
import Derived.Test.YtkknmpkcfpdllaaDoorTTree7
import Derived.Test.YtkknmpkcfpdllaaDoorTTreeLaid
import Derived.Test.YtkknmpkcfpdllaaDoorTCheckP
import Derived.Test.YtkknmpkcfpdllaaDoorTDRoom
import Derived.Test.YtkknmpkcfpdllaaDoorSOrow
import Derived.Test.YtkknmpkcfpdllaaDoorSSlices
import Derived.Test.YtkknmpkcfpdllaaDoorTFacts
namespace Go.Proofs.YtkknmpkcfpdllaaDoor.B
open Go Go.Proofs
set_option linter.unusedVariables false
set_option linter.unusedSimpArgs false
set_option maxRecDepth 20000
set_option maxHeartbeats 8000000
theorem BDel_ok {w0 w:World} {D:Sto} {ss:List Seg} {sb sp:Seg} {vb vp:Value} {b b':Bt} {P:Pl} {res:Bool} (hI:Inv w0 D (sb::sp::ss) w) {ad:Nat→Addr} (hS:TSents D ad) (hB:BatchS D vb vp b sb) (hP:PoolS D vp P sp) (hpool:b.pool=P.f) {vk:Value} {key:Bs} (hk:RB D vk key) (hlen:b.recs.length≤1000000000 - 8000) (hok:b.delete key= .ok (res,b')) :
  Calls Tryd.prog 16 #[vb,vk] w (Ret fun r w'=>r= .tuple #[.bool res, .nilIface]∧ ∃D' sb' sp',Le D D'∧BatchS D' vb vp b' sb'∧PoolS D' vp P sp'∧Inv w0 D' (sb'::sp'::ss) w'):=by
 refine (BDelete_spec hI.merge hS (TreeS.join hB hP hpool) hk hlen).mono fun e w' h=> ?_;obtain ⟨r,he,h⟩:=h;refine ⟨r,he, ?_⟩;rcases h with ⟨res1,b1,h1,rfl,D',s',hD,hT,hI'⟩|⟨c,o,h1,_⟩
 ·rw [hok] at h1;injection h1 with h1;injection h1 with h1 h2;subst h1;subst h2
  obtain ⟨sb',sp',rfl,hB',hP',_⟩:=hT;exact ⟨rfl,D',sb',sp',hD,hB',hP',hI'.parted⟩
 rw [hok] at h1;cases h1
theorem BPut_no {w0 w:World} {D:Sto} {ss:List Seg} {sb sp:Seg} {vb vp:Value} {b:Bt} {P:Pl} {c:Nat} (hI:Inv w0 D (sb::sp::ss) w) {ad:Nat→Addr} (hS:TSents D ad) (hB:BatchS D vb vp b sb) (hP:PoolS D vp P sp) (hpool:b.pool=P.f) {vk vv:Value} {key val:Bs} (hk:RB D vk key) (hv:RB D vv val) (hlen:b.recs.length≤1000000000 - 8000) (hno:b.put key val= .fail c none) :
  Calls Tryd.prog 10 #[vb,vk,vv] w (Ret fun r w'=>r=errV ad c∧ ∃D' sb' sp',Le D D'∧BatchS D' vb vp b sb'∧PoolS D' vp P sp'∧Inv w0 D' (sb'::sp'::ss) w'):=by
 refine (BPut_spec hI.merge hS (TreeS.join hB hP hpool) hk hv hlen).mono fun e w' h=> ?_;obtain ⟨r,he,h⟩:=h;refine ⟨r,he, ?_⟩;rcases h with ⟨b1,h1,_⟩|⟨c',o,h1,rfl,D',s',hD,hT,hI'⟩
 ·rw [hno] at h1;cases h1
 rw [hno] at h1;injection h1 with h1 h2;subst h1;subst h2
 obtain ⟨sb',sp',rfl,hB',hP',_⟩:=hT;exact ⟨rfl,D',sb',sp',hD,hB',hP',hI'.parted⟩
theorem BGet_no {w0 w:World} {D:Sto} {ss:List Seg} {sb sp:Seg} {vb vp:Value} {b:Bt} {P:Pl} {c:Nat} (hI:Inv w0 D (sb::sp::ss) w) {ad:Nat→Addr} (hS:TSents D ad) (hB:BatchS D vb vp b sb) (hP:PoolS D vp P sp) (hpool:b.pool=P.f) {vk:Value} {key:Bs} (hk:RB D vk key) (hno:b.get key= .fail c none) :
  Calls Tryd.prog 32 #[vb,vk] w (Ret fun r w'=>r= .tuple #[.slice none 0 0, .bool false,errV ad c]∧ ∃D' sb' sp',Le D D'∧BatchS D' vb vp b sb'∧PoolS D' vp P sp'∧Inv w0 D' (sb'::sp'::ss) w'):=by
 refine (BGet_spec hI.merge hS (TreeS.join hB hP hpool) hk).mono fun e w' h=> ?_;obtain ⟨r,he,h⟩:=h;refine ⟨r,he, ?_⟩;rcases h with ⟨res,h1,_⟩|⟨c',o,h1,rfl,D',s',hD,hT,hI'⟩
 ·rw [hno] at h1;cases h1
 rw [hno] at h1;injection h1 with h1 h2;subst h1;subst h2
 obtain ⟨sb',sp',rfl,hB',hP',_⟩:=hT;exact ⟨rfl,D',sb',sp',hD,hB',hP',hI'.parted⟩
theorem BDel_no {w0 w:World} {D:Sto} {ss:List Seg} {sb sp:Seg} {vb vp:Value} {b:Bt} {P:Pl} {c:Nat} (hI:Inv w0 D (sb::sp::ss) w) {ad:Nat→Addr} (hS:TSents D ad) (hB:BatchS D vb vp b sb) (hP:PoolS D vp P sp) (hpool:b.pool=P.f) {vk:Value} {key:Bs} (hk:RB D vk key) (hlen:b.recs.length≤1000000000 - 8000) (hno:b.delete key= .fail c none) :
  Calls Tryd.prog 16 #[vb,vk] w (Ret fun r w'=>r= .tuple #[.bool false,errV ad c]∧ ∃D' sb' sp',Le D D'∧BatchS D' vb vp b sb'∧PoolS D' vp P sp'∧Inv w0 D' (sb'::sp'::ss) w'):=by
 refine (BDelete_spec hI.merge hS (TreeS.join hB hP hpool) hk hlen).mono fun e w' h=> ?_;obtain ⟨r,he,h⟩:=h;refine ⟨r,he, ?_⟩;rcases h with ⟨res,b1,h1,_⟩|⟨c',o,h1,rfl,D',s',hD,hT,hI'⟩
 ·rw [hno] at h1;cases h1
 rw [hno] at h1;injection h1 with h1 h2;subst h1;subst h2
 obtain ⟨sb',sp',rfl,hB',hP',_⟩:=hT;exact ⟨rfl,D',sb',sp',hD,hB',hP',hI'.parted⟩
theorem Next_no {w0 w:World} {D:Sto} {ss:List Seg} {sb sp:Seg} {vb vp:Value} {b:Bt} {P:Pl} {c:Nat} (hI:Inv w0 D (sb::sp::ss) w) {ad:Nat→Addr} (hS:TSents D ad) (hB:BatchS D vb vp b sb) (hP:PoolS D vp P sp) (hpool:b.pool=P.f) {vk:Value} {key:Bs} (hk:RB D vk key) (hno:b.from_ key false= .fail c none) :
  Calls Tryd.prog 56 #[vb,vk] w (Ret fun r w'=>r= .tuple #[.agg #[.slice none 0 0, .slice none 0 0], .bool false,errV ad c]∧ ∃D' sb' sp',Le D D'∧BatchS D' vb vp b sb'∧PoolS D' vp P sp'∧Inv w0 D' (sb'::sp'::ss) w'):=by
 refine (Next_spec hI.merge hS (TreeS.join hB hP hpool) hk).mono fun e w' h=> ?_;obtain ⟨r,he,h⟩:=h;refine ⟨r,he, ?_⟩;rcases h with ⟨res,h1,_⟩|⟨c',o,h1,rfl,D',s',hD,hT,hI'⟩
 ·rw [hno] at h1;cases h1
 rw [hno] at h1;injection h1 with h1 h2;subst h1;subst h2
 obtain ⟨sb',sp',rfl,hB',hP',_⟩:=hT;exact ⟨rfl,D',sb',sp',hD,hB',hP',hI'.parted⟩
theorem Next_yes {w0 w:World} {D:Sto} {ss:List Seg} {sb sp:Seg} {vb vp:Value} {b:Bt} {P:Pl} (hI:Inv w0 D (sb::sp::ss) w) {ad:Nat→Addr} (hS:TSents D ad) (hB:BatchS D vb vp b sb) (hP:PoolS D vp P sp) (hpool:b.pool=P.f) {vk:Value} {key:Bs} (hk:RB D vk key) {res:Option (Bs×Bs)} (hok:b.from_ key false= .ok res) :
  Calls Tryd.prog 56 #[vb,vk] w (Ret fun r w'=> ∃D' k v sb' sp',Le D D'∧r= .tuple #[.agg #[k,v], .bool res.isSome, .nilIface]∧RB D' k (res.getD ([], [])).1∧RB D' v (res.getD ([], [])).2∧BatchS D' vb vp b sb'∧PoolS D' vp P sp'∧Inv w0 D' (sb'::sp'::ss) w'):=by
 refine (Next_spec hI.merge hS (TreeS.join hB hP hpool) hk).mono fun e w' h=> ?_;obtain ⟨r,he,h⟩:=h;refine ⟨r,he, ?_⟩;rcases h with ⟨res',h1,D',k,v,hD,rfl,hk',hv',hT,hI'⟩|⟨c,o,h1,_⟩
 ·rw [hok] at h1;injection h1 with h1;subst h1
  obtain ⟨sb',sp',hs,hB',hP',_⟩:=hT;rw [hs] at hI';exact ⟨D',k,v,sb',sp',hD,rfl,hk',hv',hB',hP',hI'.parted⟩
 rw [hok] at h1;cases h1
theorem get_wrong {b:Bt} {key:Bs} (h:rightK key=false):b.get key= .fail 105 none:=by rw [Bt.get,if_pos h]
theorem from_wrong {b:Bt} {key:Bs} {a:Bool} (h:32<key.length):b.from_ key a= .fail 105 none:=by rw [Bt.from_,if_pos h]
theorem rightK_no {key:Bs} (h:(key.length:Int)<1∨(key.length:Int)>32):rightK key=false:=by rw [rightK,decide_eq_false_iff_not];omega
theorem rightK_yes {key:Bs} (h0: ¬(key.length:Int)<1) (h: ¬(key.length:Int)>32):rightK key=true:=by rw [rightK,decide_eq_true_eq];omega
theorem RB.at {D:Sto} {v:Value} {bs bs':List Nat} (h:RB D v bs) (e:bs=bs'):RB D v bs':=e▸h
theorem refEntry_spec {w0 w:World} {D:Sto} {ss:List Seg} (hI:Inv w0 D ss w) {k v:Value} {e:Bs×Bs} (hk:RB D k e.1) (hv:RB D v e.2) (h1:e.1.length≤100000) (h2:e.2.length≤100000) :
  Calls Tryd.prog 53 #[.agg #[k,v]] w (Ret fun r w'=> ∃D' k' v',Le D D'∧r= .agg #[k',v']∧RB D' k' e.1∧RB D' v' e.2∧Inv w0 D' ss w'):=by
 obtain ⟨A1,c2,rfl,_⟩:=hk.slice;obtain ⟨A3,c4,rfl,_⟩:=hv.slice;refine enter (N:=10) Tryd.func53 rfl rfl rfl ?_;intro a hE;refine wsr ?_;refine l_step rfl (f_box (cs:= #[_,_]) hE hI rfl rfl rfl rfl rfl ?_);clear hI hE a w;intro a b5 w hE hI;refine l_step rfl (f_alloc (cs:= #[.slice none 0 0, .slice none 0 0]) hE hI rfl rfl rfl zer_110 rfl ?_);clear hI hE a w;intro a b6 w hE hI;refine wnt ?_;refine wp_seq ?_;refine d_start [7] [] (by kernel_rfl) hI rfl rfl ?_;clear hI w;intro w hI;refine dp 0 hE rfl (p_fieldAddr (m:=0) rfl fo_110_0 rfl) (fun _=>hI) (listed':= #[true,false,false,false,false,false,false,false]) ?_;clear hE a;intro a hE;refine dl 1 hE rfl (fun w hS=>f_load rfl scal_34 (Inv.seg 1 hS rfl) rfl) (hI) ?_;clear hE a;intro a hE;refine dp 3 hE rfl (p_fieldAddr (m:=1) rfl fo_110_1 rfl) (fun _=>hI) ?_;clear hE a;intro a hE;refine dl 4 hE rfl (fun w hS=>f_load rfl scal_34 (Inv.seg 1 hS rfl) rfl) (hI) ?_;clear hE a;intro a hE;refine do1 2 hE rfl ?_;refine o_call hE rfl rfl rfl rfl ent_55 (refBytes_data (bs:=e.1) hI hk (by omega)) ?_;clear hI hE a;rintro r w ⟨D7,hD8,hI,hb9⟩ a hE;obtain ⟨A10,c11,rfl,_⟩:=hb9.slice;refine ⟨fun _=>(Inv.weaken hI hD8), ?_⟩;refine do1 5 hE rfl ?_;refine o_call hE rfl rfl rfl rfl ent_55 (refBytes_data (bs:=e.2) hI (hv.mono hD8) (by omega)) ?_;clear hI hE a;rintro r w ⟨D12,hD13,hI,hb14⟩ a hE;obtain ⟨A15,c16,rfl,_⟩:=hb14.slice;refine ⟨fun _=>(Inv.weaken hI (hD8.trans hD13)), ?_⟩;refine dp 6 hE rfl (f_build (vs:= [(0,_),(1,_)]) (l:= [_,_]) rfl built_110 rfl) (fun _=>(Inv.weaken hI (hD8.trans hD13))) ?_;clear hE a;intro a hE;refine do1 7 hE rfl ?_;refine f_store (l:= [_,_]) (ss':=_::_) 0 hE hI rfl rfl rfl rfl rfl sz_110 (by simp [Value.cells,Value.oneCell',pgCells,rcCells,zPg]) rfl rfl rfl ?_;clear hI w;intro w hI;refine ⟨nl, ?_⟩;refine d_done (by kernel_rfl) ?_;refine gc 2 hE ?_;refine retc1 rfl hE rfl agg_110 (hI.seg 0 rfl) rfl ?_;exact ⟨D12,_,_,(hD8.trans hD13),rfl,(hb9.mono hD13),hb14,hI.drop.drop⟩
theorem SameEntry_spec {w0 w:World} {D:Sto} {ss:List Seg} (hI:Inv w0 D ss w) {k1 v1 k2 v2:Value} {e1 e2:Bs×Bs} (hk1:RB D k1 e1.1) (hv1:RB D v1 e1.2) (hk2:RB D k2 e2.1) (hv2:RB D v2 e2.2) (hl1:e1.1.length≤100000) (hl2:e1.2.length≤100000) :
  Calls Tryd.prog 57 #[.agg #[k1,v1], .agg #[k2,v2]] w (Ret fun r w'=>Ans (e1.1=e2.1∧e1.2=e2.2) (Inv w0 D ss) r w'):=by
 obtain ⟨A1,c2,rfl,_⟩:=hk1.slice;obtain ⟨A3,c4,rfl,_⟩:=hv1.slice;obtain ⟨A5,c6,rfl,_⟩:=hk2.slice;obtain ⟨A7,c8,rfl,_⟩:=hv2.slice;refine enter (N:=21) Tryd.func57 rfl rfl rfl ?_;intro a hE;refine wsr ?_;refine l_step rfl (f_box (cs:= #[_,_]) hE hI rfl rfl rfl rfl rfl ?_);clear hI hE a w;intro a b9 w hE hI;refine l_step rfl (f_box (cs:= #[_,_]) hE hI rfl rfl rfl rfl rfl ?_);clear hI hE a w;intro a b10 w hE hI;refine go 7 hE hI ?_;clear hE a;intro a hE;refine l_step rfl (o_call hE rfl rfl rfl rfl ent_31 (SameBytes_spec hI hk1 hk2 (by omega)) ?_);clear hI hE a;rintro r w h a hE;rcases h with ⟨rfl,h1,hI⟩|⟨rfl,h1,hI⟩
 ·refine go 7 hE hI ?_;clear hE a;intro a hE;refine l_step rfl (o_call hE rfl rfl rfl rfl ent_31 (SameBytes_spec hI hv1 hv2 (by omega)) ?_);clear hI hE a;rintro r w h a hE;rcases h with ⟨rfl,h2,hI⟩|⟨rfl,h2,hI⟩
  ·refine go 10 hE hI ?_;clear hE a;intro a hE;refine ret1 rfl hE rfl ?_;exact .inl ⟨rfl,⟨h1,h2⟩,hI.drop.drop⟩
  refine go 10 hE hI ?_;clear hE a;intro a hE;refine ret1 rfl hE rfl ?_;exact .inr ⟨rfl,fun h=>h2 h.2,hI.drop.drop⟩
 refine go 7 hE hI ?_;clear hE a;intro a hE;refine l_step rfl (o_call hE rfl rfl rfl rfl ent_31 (SameBytes_spec hI hv1 hv2 (by omega)) ?_);clear hI hE a;rintro r w h a hE;rcases h with ⟨rfl,h2,hI⟩|⟨rfl,h2,hI⟩
 ·refine go 10 hE hI ?_;clear hE a;intro a hE;refine ret1 rfl hE rfl ?_;exact .inr ⟨rfl,fun h=>h1 h.1,hI.drop.drop⟩
 refine go 10 hE hI ?_;clear hE a;intro a hE;refine ret1 rfl hE rfl ?_;exact .inr ⟨rfl,fun h=>h1 h.1,hI.drop.drop⟩
end Go.Proofs.YtkknmpkcfpdllaaDoor.B
