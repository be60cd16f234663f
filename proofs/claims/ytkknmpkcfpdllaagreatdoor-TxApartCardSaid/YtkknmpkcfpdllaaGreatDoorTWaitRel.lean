/- What functions of the program compute, each function once: steps over the model, and the plain law of it. -/
import Derived.Test.YtkknmpkcfpdllaaGreatDoorTPage
import Derived.Test.YtkknmpkcfpdllaaGreatDoorSLogB
import Derived.Test.YtkknmpkcfpdllaaGreatDoorTScan
import Derived.Test.YtkknmpkcfpdllaaGreatDoorTValues
import Derived.Test.YtkknmpkcfpdllaaGreatDoorTFacts
import Derived.Test.YtkknmpkcfpdllaaGreatDoorTDDel3
import Derived.Test.YtkknmpkcfpdllaaGreatDoorTTreeLaid
import Derived.Test.YtkknmpkcfpdllaaGreatDoorTTree7
namespace Go.Proofs.YtkknmpkcfpdllaaGreatDoor.B
open Go Go.Proofs
set_option linter.unusedVariables false
set_option linter.unusedSimpArgs false
set_option maxRecDepth 20000
set_option maxHeartbeats 8000000
def only (f:Int->Option Pg) (ids:List Int):Int->Option Pg:=fun id=>if id∈ids then f id else none
theorem Inv.drop_at {w0 w:World} {D:Sto} {ss:List Seg} {s:Seg} (i:Nat) (h:Inv w0 D (s::ss) w):Inv w0 D (s::ss.eraseIdx (i - 1)) w:=by
 have:=(h.put_back 0).erase 0;have h2:=h.perm (ss':=ss++ [s]) (by simp [List.flatten_append];exact List.perm_append_comm);have h3:Inv w0 D (s::ss.eraseIdx (i - 1)) w:=by
  cases hi:ss[i - 1]? with
  |none=>rw [List.eraseIdx_of_length_le (List.getElem?_eq_none_iff.1 hi)];exact h
  |some q=>
   have hp:=(erase_perm (i - 1) ss hi).flatten;have h4:Inv w0 D (q::s::ss.eraseIdx (i - 1)) w:=h.perm (by
    simp only [List.flatten_cons] at hp ⊢;refine List.Perm.trans ?_ (List.Perm.append_left s hp);rw [<-List.append_assoc,<-List.append_assoc];exact List.Perm.append_right _ List.perm_append_comm)
   exact h4.drop
 exact h3
theorem UBytes_spec {w0 w:World} {D:Sto} {ss:List Seg} (I:Inv w0 D ss w) {ad:Nat->Addr} (g105:GlobIs D 0 (errV ad 105)) (tx n:Int) {vk vv:Value} {key value:List Nat} (had:Bool) (hk:RB D vk key) (hv:RB D vv value) (hm:value.length<=140737488000000) :
  Calls Tryz.prog 20 #[.agg #[.int .i64 tx, .int .i64 n,vk, .bool had,vv]] w (Ret fun r w'=> ∃D',Le D D'/\((∃v s,(⟨tx,n,key,had,value⟩:Ent).Ok/\r= .tuple #[v, .nilIface]/\Inv w0 D' (s::ss) w'/\OB v (⟨tx,n,key,had,value⟩:Ent).enc s)\/(¬(⟨tx,n,key,had,value⟩:Ent).Ok/\r= .tuple #[.slice none 0 0,errV ad 105]/\Inv w0 D' ss w'))):=by
 obtain ⟨Ak,ck,rfl,_⟩:=hk.slice;obtain ⟨Av,cv,rfl,_⟩:=hv.slice;have hhad:had=true↔had=true:=Iff.rfl;refine enter (N:=55) Tryz.func20 rfl rfl rfl ?_;intro a Z;refine wsr ?_;refine l_step rfl (f_box (cs:= #[_,_,_,_,_]) Z I rfl rfl rfl rfl rfl ?_);clear I Z a w;intro a b1 w Z I;refine go 9 Z I ?_;clear Z a;intro a Z;refine l_step rfl (o_call Z rfl rfl rfl rfl ent_19 (Key_spec I g105 tx n) ?_);clear I Z a;rintro r w h a Z;rcases h with ⟨v4,D2,h1,rfl,hD3,I,hv5⟩|⟨h1,rfl,I⟩
 ·obtain ⟨A6,c7,rfl,_⟩:=hv5.slice;refine go 17 Z I ?_;clear Z a;intro a Z;refine l_step rfl (o_call Z rfl rfl rfl rfl ent_23 (UserKey_spec I (g105.mono hD3) (hk.mono hD3)) ?_);clear I Z a;rintro r w h a Z;rcases h with ⟨v10,D8,h2,h2_,rfl,hD9,I,hv11⟩|⟨h2,rfl,I⟩
  ·obtain ⟨A12,c13,rfl,_⟩:=hv11.slice;refine go 17 Z I ?_;clear Z a;intro a Z;refine zs Z (p_len rfl rfl Tryz.underlying33) ?_;clear Z a;intro a Z;refine cmx Z ?_ ?_
   ·intro h3;replace h3:=gtr_t h3;clear Z a;intro a Z;refine go 13 Z I ?_;clear Z a;intro a Z;refine wp_seq ?_;refine d_start [] [] (by kernel_rfl) I rfl rfl ?_;clear I w;intro w I;obtain ⟨T_14,fr_14,hg_14⟩:=g105;refine dl 0 Z rfl (fun w hS=>f_load rfl scal_38 (Inv.data hS _ _ ((hD3.trans hD9) _ _ (hg_14))) rfl) (I) (listed':= #[true,false,false]) ?_;clear Z a;intro a Z;refine dp 1 Z rfl (p_assign rfl) (fun _=>I) ?_;clear Z a;intro a Z;refine dp 2 Z rfl (p_assign rfl) (fun _=>I) ?_;clear Z a;intro a Z;refine dnx ?_;refine gc 3 Z ?_;refine ret2 rfl Z rfl rfl ?_;refine ⟨_,(hD3.trans hD9), .inr ⟨?_,rfl,I.drop⟩⟩;rintro ⟨q1,q2,q3,q4⟩;dsimp only at q1 q2 q3 q4
    first|omega|(rcases q4 with q4|q4;cases q4;omega)
   intro h3;replace h3:=gtr_f h3;clear Z a;intro a Z;refine go 3 Z I ?_;clear Z a;intro a Z;rcases Bool.eq_false_or_eq_true had with rfl|rfl
   ·replace hhad:=iff_t hhad;refine gs Z (p_not rfl) ?_;clear Z a;intro a Z;refine go 23 Z I ?_;clear Z a;intro a Z;refine wp_seq ?_;have hz1:(putZ (key.length:Nat)).length=1:=by rw [putZ_small (by omega) (by omega)];rfl
    have hz2:(putZ 1).length=1:=by rw [putZ_small (by omega) (by omega)];rfl
    refine d_start [] [] (by kernel_rfl) I rfl rfl ?_;clear I w;intro w I;refine dp 0 Z rfl (p_fieldAddr (m:=2) rfl fo_35_2 rfl) (fun _=>I) (listed':= #[true,false,false,false,false,false,false,false,false,false]) ?_;clear Z a;intro a Z;refine dl 1 Z rfl (fun w hS=>f_load rfl scal_33 (Inv.seg 0 hS rfl) rfl) (I) ?_;clear Z a;intro a Z;refine dp 3 Z rfl (p_move rfl) (fun _=>I) ?_;clear Z a;intro a Z;refine dp 5 Z rfl (p_fieldAddr (m:=4) rfl fo_35_4 rfl) (fun _=>I) ?_;clear Z a;intro a Z;refine dl 6 Z rfl (fun w hS=>f_load rfl scal_33 (Inv.seg 0 hS rfl) rfl) (I) ?_;clear Z a;intro a Z;refine do1 2 Z rfl ?_;refine o_call Z rfl rfl rfl rfl ent_67 (PutBytes_data I (RB.nil _) (hk.mono (hD3.trans hD9)) (by simp;omega)) ?_;clear I Z a;rintro r w ⟨D15,hD16,I,hb17⟩ a Z;obtain ⟨A18,c19,rfl,_⟩:=hb17.slice;refine ⟨fun _=>(Inv.weaken I hD16), ?_⟩;refine do1 4 Z rfl ?_;refine o_call Z rfl rfl rfl rfl ent_68 (Put_data (m:=1) I hb17 (by simp only [List.length_append,List.length_nil,hz1];omega) (by omega) (by omega)) ?_;clear I Z a;rintro r w ⟨D20,hD21,I,hb22⟩ a Z;obtain ⟨A23,c24,rfl,_⟩:=hb22.slice;refine ⟨fun _=>(Inv.weaken I (hD16.trans hD21)), ?_⟩;refine do1 7 Z rfl ?_;refine o_call Z rfl rfl rfl rfl ent_67 (PutBytes_spec I hb22 (hv.mono (((hD3.trans hD9).trans hD16).trans hD21)) (by simp only [List.length_append,List.length_nil,hz1];omega)) ?_;clear I Z a;rintro r w ⟨s28,hR25,I⟩ a Z;obtain ⟨A26,c27,rfl,_⟩:=Row.slice hR25;refine ⟨fun _=>(Inv.weaken (I.dropS [0]) (hD16.trans hD21)), ?_⟩;refine dp 8 Z rfl (p_assign rfl) (fun _=>(Inv.weaken (I.dropS [0]) (hD16.trans hD21))) ?_;clear Z a;intro a Z;refine dp 9 Z rfl (p_assign rfl) (fun _=>(Inv.weaken (I.dropS [0]) (hD16.trans hD21))) ?_;clear Z a;intro a Z;refine dnx ?_;refine gc 2 Z ?_;refine ret2 rfl Z rfl rfl ?_;refine ⟨_,(((hD3.trans hD9).trans hD16).trans hD21), .inl ⟨_,_,⟨by dsimp only;omega,by dsimp only;omega,by dsimp only;omega, .inl rfl⟩,rfl,I.drop_at 1,Row.cast hR25 (by simp [Ent.enc,hadZ]) (by simp [Ent.enc,hadZ];try omega)⟩⟩
   replace hhad:=iff_f hhad;refine gs Z (p_not rfl) ?_;clear Z a;intro a Z;refine go 3 Z I ?_;clear Z a;intro a Z;refine gs Z (p_len rfl rfl Tryz.underlying33) ?_;clear Z a;intro a Z;refine cgx Z ?_ ?_
   ·intro h4;replace h4:=gtr_t h4;clear Z a;intro a Z;refine go 4 Z I ?_;clear Z a;intro a Z;refine wp_seq ?_;refine d_start [] [] (by kernel_rfl) I rfl rfl ?_;clear I w;intro w I;obtain ⟨T_29,fr_29,hg_29⟩:=g105;refine dl 0 Z rfl (fun w hS=>f_load rfl scal_38 (Inv.data hS _ _ ((hD3.trans hD9) _ _ (hg_29))) rfl) (I) (listed':= #[true,false,false]) ?_;clear Z a;intro a Z;refine dp 1 Z rfl (p_assign rfl) (fun _=>I) ?_;clear Z a;intro a Z;refine dp 2 Z rfl (p_assign rfl) (fun _=>I) ?_;clear Z a;intro a Z;refine dnx ?_;refine gc 3 Z ?_;refine ret2 rfl Z rfl rfl ?_;refine ⟨_,(hD3.trans hD9), .inr ⟨?_,rfl,I.drop⟩⟩;rintro ⟨q1,q2,q3,q4⟩;dsimp only at q1 q2 q3 q4
    first|omega|(rcases q4 with q4|q4;cases q4;omega)
   intro h4;replace h4:=gtr_f h4;clear Z a;intro a Z;refine go 17 Z I ?_;clear Z a;intro a Z;refine wp_seq ?_;have hz1:(putZ (key.length:Nat)).length=1:=by rw [putZ_small (by omega) (by omega)];rfl
   have hz2:(putZ 0).length=1:=by rw [putZ_small (by omega) (by omega)];rfl
   refine d_start [] [] (by kernel_rfl) I rfl rfl ?_;clear I w;intro w I;refine dp 0 Z rfl (p_fieldAddr (m:=2) rfl fo_35_2 rfl) (fun _=>I) (listed':= #[true,false,false,false,false,false,false,false,false,false]) ?_;clear Z a;intro a Z;refine dl 1 Z rfl (fun w hS=>f_load rfl scal_33 (Inv.seg 0 hS rfl) rfl) (I) ?_;clear Z a;intro a Z;refine dp 3 Z rfl (p_move rfl) (fun _=>I) ?_;clear Z a;intro a Z;refine dp 5 Z rfl (p_fieldAddr (m:=4) rfl fo_35_4 rfl) (fun _=>I) ?_;clear Z a;intro a Z;refine dl 6 Z rfl (fun w hS=>f_load rfl scal_33 (Inv.seg 0 hS rfl) rfl) (I) ?_;clear Z a;intro a Z;refine do1 2 Z rfl ?_;refine o_call Z rfl rfl rfl rfl ent_67 (PutBytes_data I (RB.nil _) (hk.mono (hD3.trans hD9)) (by simp;omega)) ?_;clear I Z a;rintro r w ⟨D30,hD31,I,hb32⟩ a Z;obtain ⟨A33,c34,rfl,_⟩:=hb32.slice;refine ⟨fun _=>(Inv.weaken I hD31), ?_⟩;refine do1 4 Z rfl ?_;refine o_call Z rfl rfl rfl rfl ent_68 (Put_data (m:=0) I hb32 (by simp only [List.length_append,List.length_nil,hz1];omega) (by omega) (by omega)) ?_;clear I Z a;rintro r w ⟨D35,hD36,I,hb37⟩ a Z;obtain ⟨A38,c39,rfl,_⟩:=hb37.slice;refine ⟨fun _=>(Inv.weaken I (hD31.trans hD36)), ?_⟩;refine do1 7 Z rfl ?_;refine o_call Z rfl rfl rfl rfl ent_67 (PutBytes_spec I hb37 (hv.mono (((hD3.trans hD9).trans hD31).trans hD36)) (by simp only [List.length_append,List.length_nil,hz1];omega)) ?_;clear I Z a;rintro r w ⟨s43,hR40,I⟩ a Z;obtain ⟨A41,c42,rfl,_⟩:=Row.slice hR40;refine ⟨fun _=>(Inv.weaken (I.dropS [0]) (hD31.trans hD36)), ?_⟩;refine dp 8 Z rfl (p_assign rfl) (fun _=>(Inv.weaken (I.dropS [0]) (hD31.trans hD36))) ?_;clear Z a;intro a Z;refine dp 9 Z rfl (p_assign rfl) (fun _=>(Inv.weaken (I.dropS [0]) (hD31.trans hD36))) ?_;clear Z a;intro a Z;refine dnx ?_;refine gc 2 Z ?_;refine ret2 rfl Z rfl rfl ?_;refine ⟨_,(((hD3.trans hD9).trans hD31).trans hD36), .inl ⟨_,_,⟨by dsimp only;omega,by dsimp only;omega,by dsimp only;omega, .inr (by dsimp only;omega)⟩,rfl,I.drop_at 1,Row.cast hR40 (by simp [Ent.enc,hadZ]) (by simp [Ent.enc,hadZ];try omega)⟩⟩
  refine go 18 Z I ?_;clear Z a;intro a Z;refine ret2 rfl Z rfl rfl ?_;refine ⟨_,hD3, .inr ⟨?_,rfl,I.drop⟩⟩;rintro ⟨q1,q2,q3,q4⟩;dsimp only at q1 q2 q3 q4
  first|omega|(rcases q4 with q4|q4;cases q4;omega)
 refine go 18 Z I ?_;clear Z a;intro a Z;refine ret2 rfl Z rfl rfl ?_;refine ⟨_,(Le.refl _), .inr ⟨?_,rfl,I.drop⟩⟩;rintro ⟨q1,q2,q3,q4⟩;dsimp only at q1 q2 q3 q4
 first|omega|(rcases q4 with q4|q4;cases q4;omega)
open Go
set_option linter.unnecessarySimpa false
variable {B:Nat}
theorem HoldsA.from_ {b:Bt} {K:Nat} {kv:Ens} {key:Bs} (h:HoldsA B b K kv) (ha:AllOk b) (above:Bool) (hk:key.length<=32):b.from_ key above= .ok (fromKv key above kv):=by have hso:=h.sorted;obtain ⟨n,av,fl,ids,h⟩:=h;have hn:=h.lvl;have hc:=h.c;obtain ⟨l',ks',y,kvL,kvR,m,hd,rfl,w1,w2,w3,w4,w5⟩:=down_sides (key:=key) h.g.i n 17 [] [] (by omega) h.s (InR.all key);have hlast:lastPg ([]++l'++ [y])=y:=lastPg_end _ _;have hsR:Sorted kvR:=(List.pairwise_append.1 hso).2.1;rw [Bt.from_,if_neg (by omega),Bt.down,hd];simp only [hlast];rw [List.append_assoc,fromKv_left _ w2];exact fromF_law ha m 256 (by omega) w4 w1 w3 hsR
theorem FreeC.frameL {V V':Vw}: ∀(fr:List Int) {f:Int},(∀j∈fr,(V' j).map noL=(V j).map noL)->FreeC V f fr->FreeC V' f fr
 | [],_,_,h=>h
 |j::r,_,hf,⟨h1,h2,h3,y,h4,h5,h6,h7⟩=>by
  obtain ⟨z,hz,e⟩:=map_noL (hf j (by simp)) h4;obtain ⟨_,e1,e2,e3⟩:=noL_eq e;exact ⟨h1,h2,h3,z,hz,by rw [e1];exact h5,by rw [e3];exact h6,by rw [e2];exact FreeC.frameL r (fun k hk=>hf k (by simp [hk])) h7⟩
theorem pw_noL {V V':Vw} {j:Int} (h:(V' j).map noL=(V j).map noL):pw V' j=pw V j:=by
 cases hv:V j with
 |none=>
  rw [hv] at h;have:V' j=none:=by simpa using h
  rw [pw,pw,hv,this]
 |some x=>
  obtain ⟨z,hz,e⟩:=map_noL h hv;rw [pw_some hv,pw_some hz,(noL_eq e).2.2.2]
theorem HoldsA.laid {b b':Bt} {K:Nat} {kv:Ens} (h:HoldsA B b K kv) (hi:IdsOk b'.view) (hv: ∀id,0<=id->id<256->(b'.view id).map noL=(b.view id).map noL):HoldsA B b' K kv:=by
 obtain ⟨n,av,fl,ids,h⟩:=h;have hids: ∀j∈ids,(b'.view j).map noL=(b.view j).map noL:=fun j hj=>by have:=h.g.rgi hj;exact hv j this.1 this.2.1
 have hback: ∀j∈ids,∀x,b'.view j=some x-> ∃y,b.view j=some y/\y.ents=x.ents/\y.level=x.level:=fun j hj x hx=>by
  obtain ⟨y,hy,e⟩:=map_noL (hids j hj).symm hx;exact ⟨y,hy,(noL_eq e).2.2.2,(noL_eq e).2.1⟩
 have h0:(0:Int)∈ids:=by obtain ⟨x,js,_,_,_,e⟩:=h.id0;rw [e];simp
 refine ⟨n,av,fl,ids,⟨⟨?_,hi,h.g.nd,h.g.rg,h.g.a1⟩,SubT.frameL n hids h.s, ?_,h.c, ?_, ?_⟩⟩
 ·obtain ⟨u,f,fr,⟨⟨x,hx,he⟩,c,u1,u2⟩,hav⟩:=h.g.m;obtain ⟨y,hy,e⟩:=map_noL (hv 1 (by omega) (by omega)) hx;exact ⟨u,f,fr,⟨⟨y,hy,by rw [(noL_eq e).2.2.2];exact he⟩,c.frameL fr (fun j hj=>by have:=(FreeC.rg fr c).1 j hj;exact hv j (by omega) this.2),u1,u2⟩,hav⟩
 ·intro j hj hne x hx hl2;obtain ⟨y,hy,e,e2⟩:=hback j hj x hx;rw [<-e];exact h.o j hj hne y hy (by omega)
 ·intro x hx hn;obtain ⟨y,hy,e,_⟩:=hback 0 h0 x hx;rw [<-e];exact h.r y hy hn
 intro x hx;obtain ⟨y,hy,e,_⟩:=hback 0 h0 x hx;have h1:=h.w y hy;have h2:wt b'.view ids.tail=wt b.view ids.tail:=by
  have: ∀l:List Int,(∀j∈l,j∈ids)->wt b'.view l=wt b.view l:=by
   intro l;induction l with
   |nil=>intro _;rfl
   |cons j l ih=>intro hl;rw [wt_cons,wt_cons,ih (fun k hk=>hl k (by simp [hk])),pw_noL (hids j (hl j (by simp)))]
  exact this _ (fun j hj=>List.mem_of_mem_tail hj)
 rw [h2,<-e];exact h1
def PHoldsA (B:Nat) (P:Pl) (n:Int) (K:Nat) (kv:Ens):Prop:=PlOk P n/\HoldsA B (newBt P) K kv
theorem laid_holdsA {P:Pl} {n:Int} {b:Bt} {K:Nat} {kv:Ens} {k:Nat} (hP:PlOk P n) (h1:1<=n) (hr:Runs (newBt P) b k) (hk:n+k<=1099511627777) (hb:HoldsA B b K kv) :
  b.recs.length<=k/\ ∃P',laidP P b.recs n=some (P',n+b.recs.length)/\PHoldsA B P' (n+b.recs.length) K kv:=by
 obtain ⟨rs,r1,r2,r3⟩:=hr;have e0:(newBt P).recs.length=0:=rfl;obtain ⟨⟨P',l1,l2,l3⟩,e1⟩:=LInv.all h1 rs (LInv.new hP) (AllOk.new hP) (by rw [e0];omega) r2 r3;refine ⟨by omega,P',l1,l2,hb.laid (IdsOk.new l2) (fun id i1 i2=> ?_)⟩;rw [newBt_view i1 i2];exact l3 id i1 i2
theorem upTo_nodup (u:Nat):(upTo u).Nodup:=by unfold upTo;refine List.Pairwise.map _ (fun a b h=> ?_) (List.nodup_range' (step:=1) (by omega));simp only [ne_eq] at h ⊢;omega
theorem upTo_len (u:Nat):(upTo u).length=256 - u:=by simp [upTo]
theorem E0_holdsA:PHoldsA B E0 4 0 []:=by
 refine ⟨E0_ok,0,upTo 2,0, [0],⟨⟨?_,IdsOk.new E0_ok, ?_, ?_, ?_⟩, ?_, ?_,by rw [upTo_len];rfl, ?_, ?_⟩⟩
 ·obtain ⟨x,h1,h2⟩:=E0_1;exact ⟨2,0, [],⟨⟨x,by rw [newBt_view (by omega) (by omega)];exact h1,h2⟩,rfl,by omega,by omega⟩,rfl, .inr rfl⟩
 ·refine List.nodup_cons.2 ⟨?_,upTo_nodup 2⟩;show (0:Int) ∉ upTo 2;rw [mem_upTo];omega
 ·intro j hj;rcases List.mem_cons.1 hj with e|e
  ·omega
  have:j∈upTo 2:=e;rw [mem_upTo] at this;omega
 ·intro j hj;rw [mem_upTo] at hj;omega
 ·obtain ⟨x,h1,h2,h3,h4⟩:=E0_0;exact ⟨rfl,rfl,x,by rw [newBt_view (by omega) (by omega)];exact h1,h2,h3,h4,by simp,by simp [Sorted],by simp⟩
 ·intro j hj hne;simp at hj;exact absurd hj hne
 ·intro x _ h;omega
 intro x hx;obtain ⟨y,h1,_,_,h4⟩:=E0_0;rw [newBt_view (by omega) (by omega),h1] at hx;injection hx with hx;subst hx
 simp [h4,wt]
instance:Inhabited Ent:=⟨⟨0,0, [],false, []⟩⟩
def ueOf (e:Ent):Bs×Bs:=(keyL e.tx e.n,e.enc)
def befE (a b:Ent):Prop:=a.tx<b.tx\/(a.tx=b.tx/\a.n<b.n)
instance (a b:Ent):Decidable (befE a b):=inferInstanceAs (Decidable (_\/_))
def withE:List Ent->Ent->List Ent
 | [],e=> [e]
 |a::r,e=>if befE a e then a::withE r e else if a.tx=e.tx/\a.n=e.n then e::r else e::a::r
theorem with_mem {e:Ent}: ∀(l:List Ent) {a:Ent},a∈withE l e->a=e\/a∈l
 | [],a,h=>by simpa [withE] using h
 |x::r,a,h=>by
  rw [withE] at h;split at h
  ·rcases List.mem_cons.1 h with h|h
   ·exact .inr (by simp [h])
   rcases with_mem r h with h|h
   ·exact .inl h
   exact .inr (by simp [h])
  split at h
  ·rcases List.mem_cons.1 h with h|h
   ·exact .inl h
   exact .inr (by simp [h])
  rcases List.mem_cons.1 h with h|h
  ·exact .inl h
  exact .inr h
theorem with_ins {e:Ent} (he:e.Ok): ∀l:List Ent,(∀a∈l,a.Ok)->(withE l e).map ueOf=insKv (l.map ueOf) (keyL e.tx e.n) e.enc
 | [],_=>rfl
 |a::r,h=>by
  have ha:=h a (by simp);have ih:=with_ins he r (fun b hb=>h b (by simp [hb]));have h1:=ltB_key ha.1 he.1;have h2:=key_eq ha.1 he.1;rw [withE];show List.map ueOf (if befE a e then a::withE r e else if a.tx=e.tx/\a.n=e.n then e::r else e::a::r)=(if ltB (keyL a.tx a.n) (keyL e.tx e.n)=true then ueOf a::insKv (r.map ueOf) (keyL e.tx e.n) e.enc else if keyL a.tx a.n=keyL e.tx e.n then (keyL a.tx a.n,e.enc)::r.map ueOf else (keyL e.tx e.n,e.enc)::ueOf a::r.map ueOf);by_cases hb:befE a e
  ·have h3:ltB (keyL a.tx a.n) (keyL e.tx e.n)=true:=by rw [h1];exact hb
   rw [if_pos hb,if_pos h3,List.map_cons,ih]
  have h3: ¬ltB (keyL a.tx a.n) (keyL e.tx e.n)=true:=by rw [h1];exact hb
  rw [if_neg hb,if_neg h3];by_cases hs:a.tx=e.tx/\a.n=e.n
  ·have h4:keyL a.tx a.n=keyL e.tx e.n:=by rw [h2];exact hs
   rw [if_pos hs,if_pos h4,h4,List.map_cons];rfl
  have h4: ¬keyL a.tx a.n=keyL e.tx e.n:=by rw [h2];exact hs
  rw [if_neg hs,if_neg h4];rfl
theorem BDel_ok {w0 w:World} {D:Sto} {ss:List Seg} {sb sp:Seg} {vb vp:Value} {b b':Bt} {P:Pl} {res:Bool} (I:Inv w0 D (sb::sp::ss) w) {ad:Nat->Addr} (hS:TSents D ad) (hB:BatchS D vb vp b sb) (hP:PoolS D vp P sp) (hpool:b.pool=P.f) {vk:Value} {key:Bs} (hk:RB D vk key) (hlen:b.recs.length<=1000000000 - 8000) (hok:b.delete key= .ok (res,b')) :
  Calls Tryz.prog 41 #[vb,vk] w (Ret fun r w'=>r= .tuple #[.bool res, .nilIface]/\ ∃D' sb' sp',Le D D'/\BatchS D' vb vp b' sb'/\PoolS D' vp P sp'/\Inv w0 D' (sb'::sp'::ss) w'):=by
 refine (BDelete_spec I.merge hS (TreeS.join hB hP hpool) hk hlen).mono fun e w' h=> ?_;obtain ⟨r,he,h⟩:=h;refine ⟨r,he, ?_⟩;rcases h with ⟨res1,b1,h1,rfl,D',s',hD,hT,hI'⟩|⟨c,o,h1,_⟩
 ·rw [hok] at h1;injection h1 with h1;injection h1 with h1 h2;subst h1;subst h2
  obtain ⟨sb',sp',rfl,hB',hP',_⟩:=hT;exact ⟨rfl,D',sb',sp',hD,hB',hP',hI'.parted⟩
 rw [hok] at h1;cases h1
theorem Equal_spec {w0 w:World} {D:Sto} {ss:List Seg} (I:Inv w0 D ss w) {va vb:Value} {ka kb:List Nat} (ha:RB D va ka) (hb:RB D vb kb) :
  Calls Tryz.prog 160 #[va,vb] w (Ret fun r w'=>r= .bool (decide (ka=kb))/\Inv w0 D ss w'):=by
 obtain ⟨A1,c2,rfl,_⟩:=ha.slice;obtain ⟨A3,c4,rfl,_⟩:=hb.slice;refine enter (N:=10) Tryz.func160 rfl rfl rfl ?_;intro a Z;refine go 5 Z I ?_;clear Z a;intro a Z;refine zl Z (r_toString I rfl ha Tryz.underlying33 Tryz.underlying5 Tryz.underlying9) ?_;clear Z a;intro a Z;refine zm Z ?_;clear Z a;intro a Z;refine zl Z (r_toString I rfl hb Tryz.underlying33 Tryz.underlying5 Tryz.underlying9) ?_;clear Z a;intro a Z;refine zs Z (p_strEql rfl rfl (strOf_eq ha.lt hb.lt)) ?_;clear Z a;intro a Z;refine go 3 Z I ?_;clear Z a;intro a Z;refine rt1 Z ?_;exact ⟨rfl,I⟩
def UeR (D:Sto) (vs:List Value) (x:Ent):Prop:= ∃k v,vs= [.int .i64 x.tx, .int .i64 x.n,k, .bool x.had,v]/\RB D k x.key/\RB D v x.value
theorem UeR.keeps:Keeps UeR:=fun D D' vs x hD h=>by obtain ⟨k,v,rfl,h1,h2⟩:=h;exact ⟨k,v,rfl,h1.mono hD,h2.mono hD⟩
theorem UeR.one {D:Sto} {vs:List Value} {x:Ent} (h:UeR D vs x): ∀u∈vs,u.oneCell'=true:=by obtain ⟨k,v,rfl,h1,h2⟩:=h;obtain ⟨_,_,rfl,_⟩:=h1.slice;obtain ⟨_,_,rfl,_⟩:=h2.slice;intro u hu;simp only [List.mem_cons,List.not_mem_nil,or_false] at hu;rcases hu with rfl|rfl|rfl|rfl|rfl<;>rfl
variable {B:Nat}
variable {B:Nat}
def cb (C:Int->Option Pg) (b:Bt):Bt:={b with pool:=C}
def cp {α:Type} (C:Int->Option Pg) (p:α×Bt):α×Bt:=(p.1,cb C p.2)
def cq {α:Type} (C:Int->Option Pg) (p:Bt×α):Bt×α:=(cb C p.1,p.2)
theorem BPut_cold {w0 w:World} {D:Sto} {ss:List Seg} {sb sp:Seg} {vb vp:Value} {b b':Bt} {P:Pl} {S:List Int} (I:Inv w0 D (sb::sp::ss) w) {ad:Nat->Addr} (hS:TSents D ad) (hB:BatchS D vb vp b sb) (hP:PoolS D vp P sp) (hpool:b.pool=P.f) {vk vv:Value} {key val:Bs} (hk:RB D vk key) (hv:RB D vv val) (hlen:b.recs.length<=1000000000 - 8000)
  (hok:b.put key val= .ok b'\/ ∃j,b.put key val= .fail 113 (some j)/\P.f j=none/\j∈S) :
  Calls Tryz.prog 21 #[vb,vk,vv] w (Ret fun r w'=>(r= .nilIface/\ ∃D' sb' sp',Le D D'/\BatchS D' vb vp b' sb'/\PoolS D' vp P sp'/\Inv w0 D' (sb'::sp'::ss) w')\/
   ∃j D' sb' sp',P.f j=none/\j∈S/\r=errV ad 113/\Le D D'/\BatchS D' vb vp b sb'/\PoolS D' vp (P.want j) sp'/\Inv w0 D' (sb'::sp'::ss) w'):=by
 refine (BPut_spec I.merge hS (TreeS.join hB hP hpool) hk hv hlen).mono fun e w' h=> ?_;obtain ⟨r,he,h⟩:=h;refine ⟨r,he, ?_⟩;rcases h with ⟨b1,h1,rfl,D',s',hD,hT,hI'⟩|⟨c',o,h1,rfl,D',s',hD,hT,hI'⟩
 ·rcases hok with hok|⟨j,hok,_⟩
  ·rw [hok] at h1;injection h1 with h1;subst h1
   obtain ⟨sb',sp',rfl,hB',hP',_⟩:=hT;exact .inl ⟨rfl,D',sb',sp',hD,hB',hP',hI'.parted⟩
  rw [hok] at h1;cases h1
 rcases hok with hok|⟨j,hok,h2,h3⟩
 ·rw [hok] at h1;cases h1
 rw [hok] at h1;injection h1 with h1 h4;subst h1;subst h4
 obtain ⟨sb',sp',rfl,hB',hP',_⟩:=hT;exact .inr ⟨j,D',sb',sp',h2,h3,rfl,hD,hB',hP',hI'.parted⟩
end Go.Proofs.YtkknmpkcfpdllaaGreatDoor.B
