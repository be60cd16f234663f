/- What functions of the program compute, each function once: steps over the model, and the plain law of it. -/
import Derived.Test.YtkknmpkcfpdllaaGreatDoorTDPut
namespace Go.Proofs.YtkknmpkcfpdllaaGreatDoor.B
open Go
set_option linter.unusedVariables false
set_option linter.unusedSimpArgs false
set_option linter.unnecessarySimpa false
variable {B:Nat}
theorem wt_upd {V:Vw} {k:Int} {x y:Pg} {d:Nat} (hy:V k=some y) (hl:x.ents.length≤y.ents.length+d): ∀(l:List Int),l.Nodup→wt (V.upd k x) l≤wt V l+d
 | [],_=>by simp [wt]
 |j::l,hn=>by
  have hn':=List.nodup_cons.1 hn;rw [wt_cons,wt_cons];by_cases h:j=k
  ·subst h;have e2:=wt_frame (V:=V) (V':=V.upd j x) l (fun i hi=>upd_other (by rintro rfl;exact hn'.1 hi));rw [pw_some (upd_same _ _ _),pw_some hy,e2];omega
  have:=wt_upd hy hl l hn'.2;have e:pw (V.upd k x) j=pw V j:=by rw [pw,pw,upd_other h]
  omega
theorem TrA.id0 {b:Bt} {K n:Nat} {av ids:List Int} {fl:Int} {kv:Ens} (h:TrA B b K n av fl ids kv): ∃x js,b.view 0=some x∧x.level=(n:Int)∧x.ents.length≤8∧ids=0::js:=SubT.page h.s
theorem leaf_trA {b b'':Bt} {K d n:Nat} {av:List Int} {fl:Int} {ids:List Int} {kvL kvR ents':Ens} {y:Pg} {kv:Ens} (h:TrA B b K n av fl ids kv) (hy:b.view y.id=some y) (hm:y.id∈ids) (hlv:y.level=0)
  (hv:b''.view=b.view.upd y.id {y with ents:=ents'}) (hl:ents'.length≤y.ents.length+d)
  (hs:SubT b''.view n 0 [] none fl (-1) ids (kvL++ents'++kvR)):TrA B b'' (K+d) n av fl ids (kvL++ents'++kvR):=by
 have hy1:=(h.g.rgi hm).2.2;obtain ⟨x0,js,hx0,hx0l,_,hids⟩:=h.id0;have hv0:0<n→(0:Int)≠y.id:=by
  intro hn e;rw [←e,hx0] at hy;injection hy with hy;subst hy
  omega
 refine ⟨⟨?_, ?_,h.g.nd,h.g.rg,h.g.a1⟩,hs, ?_,h.c, ?_, ?_⟩
 ·refine h.g.m.frame (by rw [hv,upd_other (Ne.symm hy1)]) (fun j hj=> ?_);rw [hv,upd_other];rintro rfl;exact h.g.dis hm hj
 ·rw [hv];exact h.g.i.upd rfl
 ·intro j hj hne x hx hl2;rw [hv] at hx;by_cases e:j=y.id
  ·subst e;rw [upd_same] at hx;injection hx with hx;subst hx
   simp only [] at hl2;omega
  rw [upd_other e] at hx;exact h.o j hj hne x hx hl2
 ·intro x hx hn;rw [hv,upd_other (hv0 hn)] at hx;exact h.r x hx hn
 intro x hx;by_cases e:(0:Int)=y.id
 ·rw [hv,e,upd_same] at hx;injection hx with hx;subst hx
  have hn:n=0:=by
   rcases Nat.eq_zero_or_pos n with q|q
   ·exact q
   exact absurd e (hv0 q)
  subst hn;have h1:=h.w y (by rw [e];exact hy);obtain ⟨_,rfl,_⟩:=h.s;simp only [List.tail_cons,wt_nil] at h1 ⊢;omega
 rw [hv,upd_other e] at hx;have h1:=h.w x hx;have h2:=wt_upd (V:=b.view) (k:=y.id) (x:={y with ents:=ents'}) hy hl ids.tail (h.g.ids.sublist (List.tail_sublist _));rw [hv];omega
theorem put_trA {b:Bt} {K n:Nat} {av:List Int} {fl:Int} {ids:List Int} {kv:Ens} {key val:Bs} (h:TrA B b K n av fl ids kv) (hk:rightK key=true) (hv:val.length≤64) :
  (∃b' n' av' fl' ids',b.put key val= .ok b'∧TrA B b' (K+1) n' av' fl' ids' (insKv kv key val))∨(av.length<8∧lookKv kv key=none∧b.put key val= .fail 109 none):=by
 have hn:=h.lvl;have hk0:key≠ []:=by rintro rfl;simp [rightK] at hk
 obtain ⟨l',ks',y,hd,hy8,hw⟩:=down_n (key:=key) h.g.i n 17 [] [] (by omega) h.g.ids h.s (InR.all key);have hlast:lastPg ([]++l'++ [y])=y:=lastPg_end _ _;obtain ⟨w1,w2,w3,kvL,kvR,lo',hi',rfl,w5,w6,w7,w8,w9⟩:=hw.keys hk0 hw.1;have hput:b.put key val=(if (findP y.ents key).2 then b.doR {page:=y.id,kind:=4,slot:=(findP y.ents key).1,val:=val} else match b.room key with
  | .fail c o=> .fail c o
  | .ok (b,y)=>b.doR {page:=y.id,kind:=2,slot:=(findP y.ents key).1,key:=key,val:=val}):=by
  rw [Bt.put,if_neg (by rw [hk];simp;omega),Bt.down,hd];simp only [hlast];rfl
 cases hf:(findP y.ents key).2 with
 |true=>
  rw [hf] at hput;have hlt:=findP_lt hf;obtain ⟨b',t,v⟩:=doR_view (b:=b) (r:={page:=y.id,kind:=4,slot:=(findP y.ents key).1,val:=val}) (x:=y) (.inr ⟨by simp,w1⟩) rfl;have he:effP y {page:=y.id,kind:=4,slot:=(findP y.ents key).1,val:=val}={y with ents:=insKv y.ents key val}:=by unfold effP;rw [if_neg (by simp),if_neg (by simp),if_neg (by simp),if_pos rfl,if_pos (by simp only [];omega)];simp only [Int.toNat_natCast];rw [insKv_found _ hf]
  rw [he] at v;refine .inl ⟨b',n,av,fl,ids,by rw [hput];exact t, ?_⟩;rw [insKv_right w8,insKv_left _ w7];have hlen8:(insKv y.ents key val).length≤8:=by rw [←insKv_found _ hf];simpa using hy8
  exact leaf_trA h w1 w3 w2 v (insKv_len _).2 (w9 _ _ (fun j _ hne=>by rw [v,upd_other hne]) (by rw [v,upd_same]) hlen8 (insKv_ok w6 w5 hk0))
 |false=>
  rw [hf] at hput;rcases room_trA key h with ⟨b1,z,n1,av1,fl1,ids1,hr,h1,hz8,hw1⟩|⟨e1,e2⟩
  rotate_left
  ·refine .inr ⟨e1, ?_,by rw [hput];simp only [Bool.false_eq_true,if_false];rw [e2]⟩;rw [lookKv_right w8,lookKv_left _ w7,←lookKv_find,if_neg (by rw [hf];simp)]
  obtain ⟨z1,z2,z3,kL,kR,lo2,hi2,hkv,z5,z6,z7,z8,z9⟩:=hw1.keys hk0 hw1.1;have hfz:(findP z.ents key).2=false:=by
   cases hq:(findP z.ents key).2 with
   |false=>rfl
   |true=>
    exfalso;obtain ⟨e,he,hek⟩:=findP_mem _ hq;have hmem:e∈kvL++y.ents++kvR:=by rw [hkv];simp [he]
    have hfy:(findP y.ents key).2=true:=by
     refine findP_of_mem _ w6.1 ⟨e, ?_,hek⟩;rcases List.mem_append.1 hmem with q|q
     ·rcases List.mem_append.1 q with q|q
      ·have:=w7 e q;rw [hek,ltB_irrefl] at this;cases this
      exact q
     have:=w8 e q;rw [hek,ltB_irrefl] at this;cases this
    rw [hf] at hfy;cases hfy
  obtain ⟨b',t,v⟩:=doR_view (b:=b1) (r:={page:=z.id,kind:=2,slot:=(findP z.ents key).1,key:=key,val:=val}) (x:=z) (.inr ⟨by simp,z1⟩) rfl;have he:effP z {page:=z.id,kind:=2,slot:=(findP z.ents key).1,key:=key,val:=val}={z with ents:=insKv z.ents key val}:=by unfold effP;rw [if_neg (by simp),if_pos rfl,if_pos hz8];have:=findP_le z.ents key;rw [show (min ((findP z.ents key).1:Int) (z.ents.length:Nat)).toNat=(findP z.ents key).1 by omega,insKv_new _ hfz]
  rw [he] at v;refine .inl ⟨b',n1,av1,fl1,ids1,by rw [hput];simp only [Bool.false_eq_true,if_false];rw [hr];exact t, ?_⟩;rw [hkv,insKv_right z8,insKv_left _ z7];have hlen8:(insKv z.ents key val).length≤8:=by have:=(insKv_len (k:=key) (v:=val) z.ents).2;omega
  exact leaf_trA h1 z1 z3 z2 v (insKv_len _).2 (z9 _ _ (fun j _ hne=>by rw [v,upd_other hne]) (by rw [v,upd_same]) hlen8 (insKv_ok z6 z5 hk0))
theorem get_trA {b:Bt} {K n:Nat} {av:List Int} {fl:Int} {ids:List Int} {kv:Ens} {key:Bs} (h:TrA B b K n av fl ids kv) (hk:rightK key=true):b.get key= .ok (lookKv kv key):=by
 have hn:=h.lvl;have hk0:key≠ []:=by rintro rfl;simp [rightK] at hk
 obtain ⟨l',ks',y,hd,hy8,hw⟩:=down_n (key:=key) h.g.i n 17 [] [] (by omega) h.g.ids h.s (InR.all key);have hlast:lastPg ([]++l'++ [y])=y:=lastPg_end _ _;obtain ⟨w1,w2,w3,kvL,kvR,lo',hi',rfl,w5,w6,w7,w8,w9⟩:=hw.keys hk0 hw.1;rw [lookKv_right w8,lookKv_left _ w7,←lookKv_find,Bt.get,if_neg (by rw [hk];simp),Bt.down,hd];simp only [hlast];split<;>rfl
def HoldsA (B:Nat) (b:Bt) (K:Nat) (kv:Ens):Prop:= ∃n av fl ids,TrA B b K n av fl ids kv
theorem HoldsA.mono {b:Bt} {K K':Nat} {kv:Ens} (h:HoldsA B b K kv) (hk:K≤K'):HoldsA B b K' kv:=by obtain ⟨n,av,fl,ids,h⟩:=h;exact ⟨n,av,fl,ids,h.mono hk⟩
theorem HoldsA.sorted {b:Bt} {K:Nat} {kv:Ens} (h:HoldsA B b K kv):Sorted kv:=by obtain ⟨n,av,fl,ids,h⟩:=h;exact (SubT.kv n h.s).1
theorem HoldsA.put {b:Bt} {K:Nat} {kv:Ens} {key val:Bs} (h:HoldsA B b K kv) (hl:K≤735) (hk:rightK key=true) (hv:val.length≤64): ∃b',b.put key val= .ok b'∧HoldsA B b' (K+1) (insKv kv key val):=by
 obtain ⟨n,av,fl,ids,h⟩:=h;have h1:=h.pages;have h2:=h.c;rcases put_trA h hk hv with ⟨b',n',av',fl',ids',t,h'⟩|⟨e,_⟩
 ·exact ⟨b',t,n',av',fl',ids',h'⟩
 omega
theorem HoldsA.get {b:Bt} {K:Nat} {kv:Ens} {key:Bs} (h:HoldsA B b K kv) (hk:rightK key=true):b.get key= .ok (lookKv kv key):=by obtain ⟨n,av,fl,ids,h⟩:=h;exact get_trA h hk
end Go.Proofs.YtkknmpkcfpdllaaGreatDoor.B
