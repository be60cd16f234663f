/- What functions of the program compute, each function once: steps over the model, and the plain law of it. -/
import Derived.Test.YtkknmpkcfpdllaaGreatDoorTDDel2
import Derived.Test.YtkknmpkcfpdllaaGreatDoorTTreeLaid
import Derived.Test.YtkknmpkcfpdllaaGreatDoorTDAv
namespace Go.Proofs.YtkknmpkcfpdllaaGreatDoor.B
open Go
set_option linter.unusedVariables false
set_option linter.unusedSimpArgs false
set_option linter.unnecessarySimpa false
variable {B:Nat}
theorem sink_trA {b:Bt} {K n:Nat} {av ids:List Int} {fl:Int} {kv:Ens} (h:TrW B b K n av fl ids kv) (ha:AllOk b) (hr: ∀x,b.view 0=some x→(1<n→2≤x.ents.length)∧(0<n→1≤x.ents.length)) (hBd:256≤B+av.length) :
  ∃b' n' av' fl' ids',b.sink= .ok b'∧Runs b b' 13∧TrA B b' K n' av' fl' ids' kv:=by
 obtain ⟨x,js,hx,hlv,hx8,hids⟩:=SubT.page h.s;have hrx:=hr x hx;have hpg:=page_of_view hx;by_cases h0:n=0
 ·refine ⟨b,n,av,fl,ids, ?_,Runs.refl _ _,h.toA (fun _ _ q=>by omega)⟩;rw [Bt.sink,Bt.sinkF,hpg];simp only [];rw [if_pos (.inl (by omega))]
 by_cases h1:x.ents.length=1
 rotate_left
 ·refine ⟨b,n,av,fl,ids, ?_,Runs.refl _ _,h.toA (fun y hy q=> ?_)⟩
  ·rw [Bt.sink,Bt.sinkF,hpg];simp only [];rw [if_pos (.inr h1)]
  rw [hx] at hy;injection hy with hy;subst hy
  have:=hrx.2 q;omega
 have hn1:n=1:=by
  rcases Nat.lt_or_ge 1 n with q|q
  ·have:=hrx.1 q;omega
  omega
 subst hn1;have hs:=h.s;obtain ⟨js',hjs,x',hx',hlv',hxn,_,⟨v,r,hes⟩,hch⟩:=hs;rw [hx] at hx';injection hx' with hx';subst hx'
 have hr0:r= []:=by rw [hes] at h1;simpa using h1
 subst hr0;rw [hes] at hch;obtain ⟨hv2,e1,e2,Y,hY,hY0,hYn,hYe,hY8,hYs,hYk⟩:=hch;simp only [] at hv2 e1 e2 hY;subst e1;subst e2;subst hjs;have hYid:=h.g.i _ _ hY;have hYr:=h.g.rgi (j:=numberP v) (by simp);have hnd:=List.nodup_cons.1 h.g.ids;have hY0':numberP v≠0:=fun e=>hnd.1 (by rw [e];simp);have hYav:numberP v ∉ av:=fun q=>h.g.dis (j:=numberP v) (by simp) q;have h0av:(0:Int) ∉ av:=fun q=>h.g.dis (j:=0) (by simp) q;obtain ⟨b1,t1,v1⟩:=fill_view (b:=b) (id:=0) (level:=Y.level) (next:= -1) (l:=Y.ents) (by rw [hYe];exact hY8) (by omega) (by omega);rw [hY0,clrK_zero,hYe] at v1;have hA1:AvV B b1.view av:=h.g.m.frame (by rw [v1,upd_other (by omega)]) (fun j hj=>by rw [v1,upd_other (by rintro rfl;exact h0av hj)]);obtain ⟨b2,m,t2,m1,⟨q,q1,v2⟩,hA2⟩:=free_av (p:=numberP v) hA1 (by rw [v1];exact h.g.i.upd rfl) (by omega) hYr.2.1 hYav hBd;have v0:b2.view 0=some ⟨0,0,0, -1,kv⟩:=by rw [v2,upd_other (by omega),upd_other (Ne.symm hY0'),v1,upd_same]
 have hat:atP x 0= .ok (numberP v):=by have:=atP_get (p:=x) (k:=0) (c:=([],v)) (by rw [hes];rfl) hv2;simpa using this
 have hYok:=(ha _ _ (page_of_view hY)).1;have hrr:Runs b b2 13:=(fill_runs ⟨by omega,by omega⟩ ⟨by omega,by omega⟩ ⟨by omega,by omega⟩ hYok.len hYok.ents t1).trans (free_runs hA1 ⟨hYr.1,hYr.2.1⟩ t2) (by decide);refine ⟨b2,0,numberP v::av,0, [0], ?_,hrr,⟨⟨hA2, ?_, ?_, ?_, ?_⟩, ?_, ?_, ?_,fun _ _ q=>by omega, ?_⟩⟩
 ·rw [Bt.sink,Bt.sinkF,hpg];simp only [];rw [if_neg (by rw [h1];simp;omega),hat];simp only [];rw [page_of_view hY];simp only [];rw [t1];simp only [];rw [t2];simp only [];rw [Bt.sinkF,page_of_view v0];simp
 ·rw [v2,v1];refine IdsOk.upd (IdsOk.upd (IdsOk.upd h.g.i ?_) q1) m1;rfl
 ·refine List.nodup_cons.2 ⟨?_,List.nodup_cons.2 ⟨hYav,h.g.avs⟩⟩;show (0:Int) ∉ numberP v::av;simp only [List.mem_cons,not_or];exact ⟨Ne.symm hY0',h0av⟩
 ·intro j hj;simp only [List.mem_append,List.mem_cons,List.not_mem_nil,or_false] at hj;rcases hj with e|e|e
  ·omega
  ·subst e;exact hYr
  exact h.g.rg j (by simp [e])
 ·intro j hj;rcases List.mem_cons.1 hj with e|e
  ·subst e;omega
  exact h.g.a1 j e
 ·exact ⟨rfl,rfl,_,v0,rfl,rfl,rfl,hY8,hYs,hYk⟩
 ·intro j hj hne;simp at hj;exact absurd hj hne
 ·have:=h.c;simp at this ⊢;omega
 intro z hz;rw [v0] at hz;injection hz with hz;subst hz
 have h2:=h.w x hx;simp only [List.tail_cons,wt_cons,wt_nil] at h2 ⊢;rw [pw_some hY,hYe] at h2;omega
theorem snoc2 {α:Type} {l l':List α} {p y z:α} (h:l++ [z]=l'++ [p,y]):z=y:=by have:=congrArg List.getLast? h;simpa using this
theorem delete_trA {b:Bt} {K n:Nat} {av:List Int} {fl:Int} {ids:List Int} {kv:Ens} {key:Bs} (h:TrA B b K n av fl ids kv) (ha:AllOk b) (hk:rightK key=true) (hBd:256≤B+av.length) :
  ∃b' n' av' fl' ids',b.delete key= .ok ((lookKv kv key).isSome,b')∧Runs b b' 27∧TrA B b' K n' av' fl' ids' (delKv kv key):=by
 have hn:=h.lvl;have hk0:key≠ []:=by rintro rfl;simp [rightK] at hk
 obtain ⟨l',ks',y,hd,hy8,hw⟩:=down_n (key:=key) h.g.i n 17 [] [] (by omega) h.g.ids h.s (InR.all key);have hlast:lastPg ([]++l'++ [y])=y:=lastPg_end _ _;obtain ⟨w1,w2,w3,kvL,kvR,lo',hi',hkv,w5,w6,w7,w8,w9⟩:=hw.keys hk0 hw.1;have hlook:lookKv kv key=if (findP y.ents key).2 then some (y.ents.getD (findP y.ents key).1 ([], [])).2 else none:=by rw [hkv,lookKv_right w8,lookKv_left _ w7,lookKv_find]
 have hdk:delKv kv key=kvL++delKv y.ents key++kvR:=by rw [hkv,delKv_right w8,delKv_left _ w7]
 have hdel:b.delete key=(if (findP y.ents key).2=false then .ok (false,b) else match b.doR {page:=y.id,kind:=3,slot:=(findP y.ents key).1} with
  | .fail c o=> .fail c o
  | .ok b=>match ((if 1<([]++l'++ [y]).length∧(y.ents.length:Int) - 1≤2 then b.join (([]++l'++ [y]).getD (([]++l'++ [y]).length - 2) (newPg 0)) (([]++ks').getLastD 0:Nat) else .ok b):Res Bt) with
   | .fail c o=> .fail c o
   | .ok b=>match b.sink with
    | .fail c o=> .fail c o
    | .ok b=> .ok (true,b)):=by
  rw [Bt.delete,if_neg (by rw [hk];simp),Bt.down,hd];simp only [hlast];rfl
 cases hf:(findP y.ents key).2 with
 |false=>
  rw [hf] at hdel hlook;refine ⟨b,n,av,fl,ids,by rw [hdel,hlook];rfl,Runs.refl _ _, ?_⟩;rw [hdk,delKv_none w6.1 hf,←hkv];exact h
 |true=>
  rw [hf] at hdel hlook;have hlt:=findP_lt hf;obtain ⟨b1,t,v⟩:=doR_view (b:=b) (r:={page:=y.id,kind:=3,slot:=(findP y.ents key).1}) (x:=y) (.inr ⟨by simp,w1⟩) rfl;have he:effP y {page:=y.id,kind:=3,slot:=(findP y.ents key).1}={y with ents:=delKv y.ents key}:=by unfold effP;rw [if_neg (by simp),if_neg (by simp),if_pos rfl,if_pos (by simp only [];omega)];simp only [Int.toNat_natCast];rw [delKv_found _ w6.1 hf]
  rw [he] at v;have hdl:=delKv_len y.ents key;have h1:TrA B b1 (K+0) n av fl ids (kvL++delKv y.ents key++kvR):=leaf_trA h w1 w3 w2 v (by omega) (w9 _ _ (fun j _ hne=>by rw [v,upd_other hne]) (by rw [v,upd_same]) (by omega) (delKv_ok key w6));rw [←hdk,Nat.add_zero] at h1;have hrc:RcOk {page:=y.id,kind:=3,slot:=(findP y.ents key).1}:=by have hyo:=(ha _ _ (page_of_view w1)).1.id;exact ⟨⟨rfl,rfl,rfl,rfl⟩,hyo,⟨by simp,by simp⟩,⟨by simp only [];omega,by simp only [];omega⟩,by simp,by simp⟩
  have ha1:AllOk b1:=ha.doR hrc t;have hjoin: ∃b2 av2 ids2,((if 1<([]++l'++ [y]).length∧(y.ents.length:Int) - 1≤2 then b1.join (([]++l'++ [y]).getD (([]++l'++ [y]).length - 2) (newPg 0)) (([]++ks').getLastD 0:Nat) else .ok b1):Res Bt)= .ok b2∧Runs b1 b2 13∧TrW B b2 K n av2 fl ids2 (delKv kv key)∧
    (∀x,b2.view 0=some x→(1<n→2≤x.ents.length)∧(0<n→1≤x.ents.length))∧256≤B+av2.length:=by
   split
   rotate_left
   ·exact ⟨b1,av,ids,rfl,Runs.refl _ _,h1.toW,fun x hx=>⟨fun q=>h1.r x hx (by omega),fun q=>by have:=h1.r x hx q;omega⟩,hBd⟩
   rename_i hc;have hc1:1≤l'.length:=by have:=hc.1;simp only [List.nil_append,List.length_append,List.length_cons,List.length_nil] at this;omega
   cases n with
   |zero=>
    exfalso;obtain ⟨_,_,z,hz,hz0,_⟩:=h.s;rw [Bt.downF,page_of_view hz] at hd;simp only [] at hd;rw [if_pos hz0] at hd;injection hd with hd
    injection hd with hd1 hd2
    have:=congrArg List.length hd1;simp only [List.nil_append,List.length_append,List.length_cons,List.length_nil] at this;omega
   |succ m=>
    obtain ⟨l2,ks2,p,y2,hd2,⟨c,hc2,hc3,hc4,hc5⟩,hwp⟩:=down_p (key:=key) h.g.i m 17 [] [] (by omega) h.s (InR.all key);rw [hd] at hd2;injection hd2 with hd2
    injection hd2 with hd3 hd4
    have hyy:y=y2:=snoc2 (by simpa using hd3);subst hyy;have hgl:([]++l'++ [y]).getD (([]++l'++ [y]).length - 2) (newPg 0)=p:=by rw [hd3];simp only [List.nil_append,List.length_append,List.length_cons,List.length_nil];rw [show l2.length+(0+1+1) - 2=l2.length by omega];simp [List.getD]
    have hgk:(([]++ks').getLastD 0:Nat)=childP p key:=by rw [hd4];simp [List.getLastD_eq_getLast?]
    rw [hgl,hgk];obtain ⟨idsL,idsp,idsR,kL,kvp,kR,lo2,hi2,fl2,nx2,hids,hkv2,hp,hS,hin2,hpos,hre⟩:=hwp;have hndp:idsp.Nodup:=by have q:=h.g.ids;rw [hids] at q;exact (List.nodup_append.1 (List.nodup_append.1 q).1).2.1
    have hpl:p.level=1:=by obtain ⟨_,_,z,hz,hz1,_⟩:=hS;rw [hp] at hz;injection hz with hz;subst hz;exact hz1
    obtain ⟨la,ka,ya,hda,hya8,hwa⟩:=down_n (key:=key) h.g.i 1 17 [] [] (by omega) hndp hS hin2;have hyya:ya=y:=by
     rw [Bt.downF,page_of_view hp] at hda;simp only [] at hda;rw [if_neg (by omega),atP_get hc2 hc3] at hda;simp only [] at hda;rw [Bt.downF,page_of_view hc4] at hda;simp only [] at hda;rw [if_pos hc5] at hda;injection hda with hda
     injection hda with hda1 hda2
     have q:la++ [ya]= [p]++ [y]:=by simpa using hda1.symm
     exact snoc2 (l':= []) (p:=p) (by simpa using q)
    subst hyya;obtain ⟨u1,u2,u3,kLa,kRa,lo3,hi3,hkvp,u5,u6,u7,u8,u9⟩:=hwa;have hyp:ya.id≠p.id:=by intro e;rw [e,hp] at w1;injection w1 with w1;subst w1;omega
    have hsub1:=u9 b1.view (delKv ya.ents key) (fun j _ hne=>by rw [v,upd_other hne]) (by rw [v,upd_same]) (by omega) (delKv_ok key u6);have hLn: ∀j∈idsL,j≠ya.id:=by intro j hj e;have q:=h.g.ids;rw [hids] at q;exact (List.nodup_append.1 (List.nodup_append.1 q).1).2.2 j hj ya.id u3 e
    have hRn: ∀j∈idsR,j≠ya.id:=by intro j hj e;have q:=h.g.ids;rw [hids] at q;exact (List.nodup_append.1 q).2.2 ya.id (List.mem_append_right _ u3) j hj e.symm
    have hvL: ∀j∈idsL,b1.view j=b.view j:=fun j hj=>by rw [v,upd_other (hLn j hj)]
    have hvR: ∀j∈idsR,b1.view j=b.view j:=fun j hj=>by rw [v,upd_other (hRn j hj)]
    have hso:=(SubT.kv _ h.s).1;obtain ⟨e0,he0,he0k⟩:=findP_mem _ hf;have hdk2:delKv kv key=kL++(kLa++delKv ya.ents key++kRa)++kR:=by
     rw [hkv2,hkvp] at hso ⊢;have q1:=List.pairwise_append.1 hso;have q2:=List.pairwise_append.1 q1.1;have q3:=List.pairwise_append.1 q2.2.1;have q4:=List.pairwise_append.1 q3.1;rw [delKv_right (R:=kR) (fun e he=>by have:=q1.2.2 e0 (by simp [he0]) e he;rwa [he0k] at this),delKv_left kL (fun e he=>by have:=q2.2.2 e he e0 (by simp [he0]);rwa [he0k] at this),
      delKv_right (R:=kRa) (fun e he=>by have:=q3.2.2 e0 (by simp [he0]) e he;rwa [he0k] at this),delKv_left kLa (fun e he=>by have:=q4.2.2 e he e0 he0;rwa [he0k] at this)]
    have hwp1:WandP b1.view (m+1) 0 [] none fl (-1) ids (delKv kv key) key p:=
     ⟨idsL,idsp,idsR,kL,_,kR,lo2,hi2,fl2,nx2,hids,hdk2,by rw [v,upd_other (Ne.symm hyp)];exact hp,hsub1,hin2,hpos,fun V'' ip kp hL hR hSs=>hre V'' ip kp (fun j hj=>by rw [hL j hj,hvL j hj]) (fun j hj=>by rw [hR j hj,hvR j hj]) hSs⟩
    obtain ⟨b2,av2,ids2,t2,rn2,hW2,hr2,hBd2⟩:=join_trW h1 ha1 hwp1 (List.getElem?_eq_some_iff.1 hc2).1 hBd;exact ⟨b2,av2,ids2,t2,rn2,hW2,fun x hx=>⟨(hr2 x hx).1,fun _=>(hr2 x hx).2⟩,hBd2⟩
  obtain ⟨b2,av2,ids2,t2,rn2,hW2,hr2,hBd2⟩:=hjoin;obtain ⟨b3,n3,av3,fl3,ids3,t3,rn3,h3⟩:=sink_trA hW2 (rn2.ok ha1) hr2 hBd2;refine ⟨b3,n3,av3,fl3,ids3, ?_,((Runs.one t hrc).trans rn2 (Nat.le_refl _)).trans rn3 (Nat.le_refl _),h3⟩;rw [hdel,hlook];simp only [Bool.true_eq_false,if_false,if_true,Option.isSome_some];rw [t];simp only [];rw [t2];simp only [];rw [t3]
theorem HoldsA.delete {b:Bt} {K:Nat} {kv:Ens} {key:Bs} (h:HoldsA B b K kv) (ha:AllOk b) (hk:rightK key=true) (hBK:K+6≤3*B): ∃b',b.delete key= .ok ((lookKv kv key).isSome,b')∧Runs b b' 27∧HoldsA B b' K (delKv kv key):=by obtain ⟨n,av,fl,ids,h⟩:=h;have hpg:=h.pages;have hcc:=h.c;obtain ⟨b',n',av',fl',ids',t,r,h'⟩:=delete_trA h ha hk (by omega);exact ⟨b',t,r,n',av',fl',ids',h'⟩
variable {B:Nat}
theorem HoldsA.from_ {b:Bt} {K:Nat} {kv:Ens} {key:Bs} (h:HoldsA B b K kv) (ha:AllOk b) (above:Bool) (hk:key.length≤32):b.from_ key above= .ok (fromKv key above kv):=by have hso:=h.sorted;obtain ⟨n,av,fl,ids,h⟩:=h;have hn:=h.lvl;have hc:=h.c;obtain ⟨l',ks',y,kvL,kvR,m,hd,rfl,w1,w2,w3,w4,w5⟩:=down_sides (key:=key) h.g.i n 17 [] [] (by omega) h.s (InR.all key);have hlast:lastPg ([]++l'++ [y])=y:=lastPg_end _ _;have hsR:Sorted kvR:=(List.pairwise_append.1 hso).2.1;rw [Bt.from_,if_neg (by omega),Bt.down,hd];simp only [hlast];rw [List.append_assoc,fromKv_left _ w2];exact fromF_law ha m 256 (by omega) w4 w1 w3 hsR
theorem FreeC.frameL {V V':Vw}: ∀(fr:List Int) {f:Int},(∀j∈fr,(V' j).map noL=(V j).map noL)→FreeC V f fr→FreeC V' f fr
 | [],_,_,h=>h
 |j::r,_,hf,⟨h1,h2,h3,y,h4,h5,h6,h7⟩=>by
  obtain ⟨z,hz,e⟩:=map_noL (hf j (by simp)) h4;obtain ⟨_,e1,e2,e3⟩:=noL_eq e;exact ⟨h1,h2,h3,z,hz,by rw [e1];exact h5,by rw [e3];exact h6,by rw [e2];exact FreeC.frameL r (fun k hk=>hf k (by simp [hk])) h7⟩
theorem pw_noL {V V':Vw} {j:Int} (h:(V' j).map noL=(V j).map noL):pw V' j=pw V j:=by
 cases hv:V j with
 |none=>
  rw [hv] at h;have:V' j=none:=by simpa using h
  rw [pw,pw,hv,this]
 |some x=>
  obtain ⟨z,hz,e⟩:=map_noL h hv;rw [pw_some hv,pw_some hz,(noL_eq e).2.2.2]
theorem HoldsA.laid {b b':Bt} {K:Nat} {kv:Ens} (h:HoldsA B b K kv) (hi:IdsOk b'.view) (hv: ∀id,0≤id→id<256→(b'.view id).map noL=(b.view id).map noL):HoldsA B b' K kv:=by
 obtain ⟨n,av,fl,ids,h⟩:=h;have hids: ∀j∈ids,(b'.view j).map noL=(b.view j).map noL:=fun j hj=>by have:=h.g.rgi hj;exact hv j this.1 this.2.1
 have hback: ∀j∈ids,∀x,b'.view j=some x→ ∃y,b.view j=some y∧y.ents=x.ents∧y.level=x.level:=fun j hj x hx=>by
  obtain ⟨y,hy,e⟩:=map_noL (hids j hj).symm hx;exact ⟨y,hy,(noL_eq e).2.2.2,(noL_eq e).2.1⟩
 have h0:(0:Int)∈ids:=by obtain ⟨x,js,_,_,_,e⟩:=h.id0;rw [e];simp
 refine ⟨n,av,fl,ids,⟨⟨?_,hi,h.g.nd,h.g.rg,h.g.a1⟩,SubT.frameL n hids h.s, ?_,h.c, ?_, ?_⟩⟩
 ·obtain ⟨u,f,fr,⟨⟨x,hx,he⟩,c,u1,u2⟩,hav⟩:=h.g.m;obtain ⟨y,hy,e⟩:=map_noL (hv 1 (by omega) (by omega)) hx;exact ⟨u,f,fr,⟨⟨y,hy,by rw [(noL_eq e).2.2.2];exact he⟩,c.frameL fr (fun j hj=>by have:=(FreeC.rg fr c).1 j hj;exact hv j (by omega) this.2),u1,u2⟩,hav⟩
 ·intro j hj hne x hx hl2;obtain ⟨y,hy,e,e2⟩:=hback j hj x hx;rw [←e];exact h.o j hj hne y hy (by omega)
 ·intro x hx hn;obtain ⟨y,hy,e,_⟩:=hback 0 h0 x hx;rw [←e];exact h.r y hy hn
 intro x hx;obtain ⟨y,hy,e,_⟩:=hback 0 h0 x hx;have h1:=h.w y hy;have h2:wt b'.view ids.tail=wt b.view ids.tail:=by
  have: ∀l:List Int,(∀j∈l,j∈ids)→wt b'.view l=wt b.view l:=by
   intro l;induction l with
   |nil=>intro _;rfl
   |cons j l ih=>intro hl;rw [wt_cons,wt_cons,ih (fun k hk=>hl k (by simp [hk])),pw_noL (hids j (hl j (by simp)))]
  exact this _ (fun j hj=>List.mem_of_mem_tail hj)
 rw [h2,←e];exact h1
def PHoldsA (B:Nat) (P:Pl) (n:Int) (K:Nat) (kv:Ens):Prop:=PlOk P n∧HoldsA B (newBt P) K kv
theorem laid_holdsA {P:Pl} {n:Int} {b:Bt} {K:Nat} {kv:Ens} {k:Nat} (hP:PlOk P n) (h1:1≤n) (hr:Runs (newBt P) b k) (hk:n+k≤1099511627777) (hb:HoldsA B b K kv) :
  b.recs.length≤k∧ ∃P',laidP P b.recs n=some (P',n+b.recs.length)∧PHoldsA B P' (n+b.recs.length) K kv:=by
 obtain ⟨rs,r1,r2,r3⟩:=hr;have e0:(newBt P).recs.length=0:=rfl;obtain ⟨⟨P',l1,l2,l3⟩,e1⟩:=LInv.all h1 rs (LInv.new hP) (AllOk.new hP) (by rw [e0];omega) r2 r3;refine ⟨by omega,P',l1,l2,hb.laid (IdsOk.new l2) (fun id i1 i2=> ?_)⟩;rw [newBt_view i1 i2];exact l3 id i1 i2
theorem upTo_nodup (u:Nat):(upTo u).Nodup:=by unfold upTo;refine List.Pairwise.map _ (fun a b h=> ?_) (List.nodup_range' (step:=1) (by omega));simp only [ne_eq] at h ⊢;omega
theorem upTo_len (u:Nat):(upTo u).length=256 - u:=by simp [upTo]
theorem E0_holdsA:PHoldsA B E0 4 0 []:=by
 refine ⟨E0_ok,0,upTo 2,0, [0],⟨⟨?_,IdsOk.new E0_ok, ?_, ?_, ?_⟩, ?_, ?_,by rw [upTo_len];rfl, ?_, ?_⟩⟩
 ·obtain ⟨x,h1,h2⟩:=E0_1;exact ⟨2,0, [],⟨⟨x,by rw [newBt_view (by omega) (by omega)];exact h1,h2⟩,rfl,by omega,by omega⟩,rfl, .inr rfl⟩
 ·refine List.nodup_cons.2 ⟨?_,upTo_nodup 2⟩;show (0:Int) ∉ upTo 2;rw [mem_upTo];omega
 ·intro j hj;rcases List.mem_cons.1 hj with e|e
  ·omega
  have:j∈upTo 2:=e;rw [mem_upTo] at this;omega
 ·intro j hj;rw [mem_upTo] at hj;omega
 ·obtain ⟨x,h1,h2,h3,h4⟩:=E0_0;exact ⟨rfl,rfl,x,by rw [newBt_view (by omega) (by omega)];exact h1,h2,h3,h4,by simp,by simp [Sorted],by simp⟩
 ·intro j hj hne;simp at hj;exact absurd hj hne
 ·intro x _ h;omega
 intro x hx;obtain ⟨y,h1,_,_,h4⟩:=E0_0;rw [newBt_view (by omega) (by omega),h1] at hx;injection hx with hx;subst hx
 simp [h4,wt]
end Go.Proofs.YtkknmpkcfpdllaaGreatDoor.B
