/- What functions of the program compute, each function once: steps over the model, and the plain law of it. -/
import Derived.Test.YtkknmpkcfpdllaaGreatDoorTMade2
import Derived.Test.YtkknmpkcfpdllaaGreatDoorTFacts
namespace Go.Proofs.YtkknmpkcfpdllaaGreatDoor.B
open Go Go.Proofs
set_option linter.unusedVariables false
set_option linter.unusedSimpArgs false
set_option maxRecDepth 20000
set_option maxHeartbeats 8000000
theorem toldTo_nil (k:Bs):toldTo [] k=true:=by simp [toldTo]
theorem done_len {kv:Ens} {s n:Nat} (hs:s≤kv.length) (h:Done kv s (toldTo []) n):n=kv.length - s:=by
 rcases Nat.lt_or_ge (s+n) kv.length with h1|h1
 ·exact absurd (toldTo_nil _) (h.2 _ (List.getElem?_eq_getElem h1))
 rcases Nat.lt_or_ge (kv.length - s) n with h2|h2
 ·obtain ⟨x,hx,_⟩:=h.1 (kv.length - s) h2;have:=(List.getElem?_eq_some_iff.1 hx).1;omega
 omega
theorem first22_spec {w0 w:World} {D:Sto} {ss:List Seg} (hI:Inv w0 D ss w) {ad:Nat→Addr} (hS:TSents D ad) :
  Calls Tryz.prog 31 #[] w (Ret fun r w'=> ∃D',Le D D'∧Inv w0 D' ss w'∧r= .bool true):=by
 refine enter (N:=22) Tryz.func31 rfl rfl rfl ?_;intro a hE;refine go 4 hE hI ?_;clear hE a;intro a hE;refine l_step rfl (o_call hE rfl rfl rfl rfl ent_32 (made_spec (l:=([]:List Bs)) hI hS (DR.nil 1 BsR D) (by simp)) ?_);clear hI hE a;rintro r w ⟨D1,q2,vh3,sp4,P5,hD6,rfl,hP7,hO8,hH9,hI⟩ a hE;obtain ⟨A10,c11,rfl,_⟩:=hH9.slice;refine go 9 hE hI ?_;clear hE a;intro a hE;refine zs hE (p_eq rfl rfl (g_none rfl) (e_ptrNil Tryz.underlying26 rfl) rfl rfl) ?_;clear hE a;intro a hE;refine go 6 hE hI ?_;clear hE a;intro a hE;refine l_step rfl (o_call hE rfl rfl rfl rfl ent_59 (Count_spec (frm:= []) (to:= []) (s:=0) hI (hS.mono hD6) hP7 hO8 (RB.nil _) (RB.nil _) (by simp) (by simp) (from_nil _)) ?_);clear hI hE a;rintro r w ⟨n12,D13,sp14,rfl,hdn15,hD16,hP17,hI⟩ a hE;have hn9:n12=0:=by have:=done_len (Nat.zero_le _) hdn15;simpa [madeKv] using this
 subst hn9;refine go 8 hE hI ?_;clear hE a;intro a hE;refine zs hE (p_cmp rfl rfl (eql_y (rfl))) ?_;clear hE a;intro a hE;refine go 7 hE hI ?_;clear hE a;intro a hE;refine ret1 rfl hE rfl ?_;exact ⟨_,(hD6.trans hD16),hI.drop,rfl⟩
theorem DR.at_eq {D:Sto} {v:Value} {xs ys:Ens} (h:DR 2 EnR D v xs) (e:xs=ys):DR 2 EnR D v ys:=e▸h
theorem SameEntry_spec {w0 w:World} {D:Sto} {ss:List Seg} (hI:Inv w0 D ss w) {k1 v1 k2 v2:Value} {e1 e2:Bs×Bs} (hk1:RB D k1 e1.1) (hv1:RB D v1 e1.2) (hk2:RB D k2 e2.1) (hv2:RB D v2 e2.2) (hl1:e1.1.length≤100000) (hl2:e1.2.length≤100000) :
  Calls Tryz.prog 88 #[.agg #[k1,v1], .agg #[k2,v2]] w (Ret fun r w'=>Ans (e1.1=e2.1∧e1.2=e2.2) (Inv w0 D ss) r w'):=by
 obtain ⟨A1,c2,rfl,_⟩:=hk1.slice;obtain ⟨A3,c4,rfl,_⟩:=hv1.slice;obtain ⟨A5,c6,rfl,_⟩:=hk2.slice;obtain ⟨A7,c8,rfl,_⟩:=hv2.slice;refine enter (N:=21) Tryz.func88 rfl rfl rfl ?_;intro a hE;refine wsr ?_;refine l_step rfl (f_box (cs:= #[_,_]) hE hI rfl rfl rfl rfl rfl ?_);clear hI hE a w;intro a b9 w hE hI;refine l_step rfl (f_box (cs:= #[_,_]) hE hI rfl rfl rfl rfl rfl ?_);clear hI hE a w;intro a b10 w hE hI;refine go 7 hE hI ?_;clear hE a;intro a hE;refine l_step rfl (o_call hE rfl rfl rfl rfl ent_82 (SameBytes_spec hI hk1 hk2 (by omega)) ?_);clear hI hE a;rintro r w h a hE;rcases h with ⟨rfl,h1,hI⟩|⟨rfl,h1,hI⟩
 ·refine go 7 hE hI ?_;clear hE a;intro a hE;refine l_step rfl (o_call hE rfl rfl rfl rfl ent_82 (SameBytes_spec hI hv1 hv2 (by omega)) ?_);clear hI hE a;rintro r w h a hE;rcases h with ⟨rfl,h2,hI⟩|⟨rfl,h2,hI⟩
  ·refine go 10 hE hI ?_;clear hE a;intro a hE;refine ret1 rfl hE rfl ?_;exact .inl ⟨rfl,⟨h1,h2⟩,hI.drop.drop⟩
  refine go 10 hE hI ?_;clear hE a;intro a hE;refine ret1 rfl hE rfl ?_;exact .inr ⟨rfl,fun h=>h2 h.2,hI.drop.drop⟩
 refine go 7 hE hI ?_;clear hE a;intro a hE;refine l_step rfl (o_call hE rfl rfl rfl rfl ent_82 (SameBytes_spec hI hv1 hv2 (by omega)) ?_);clear hI hE a;rintro r w h a hE;rcases h with ⟨rfl,h2,hI⟩|⟨rfl,h2,hI⟩
 ·refine go 10 hE hI ?_;clear hE a;intro a hE;refine ret1 rfl hE rfl ?_;exact .inr ⟨rfl,fun h=>h1 h.1,hI.drop.drop⟩
 refine go 10 hE hI ?_;clear hE a;intro a hE;refine ret1 rfl hE rfl ?_;exact .inr ⟨rfl,fun h=>h1 h.1,hI.drop.drop⟩
end Go.Proofs.YtkknmpkcfpdllaaGreatDoor.B
