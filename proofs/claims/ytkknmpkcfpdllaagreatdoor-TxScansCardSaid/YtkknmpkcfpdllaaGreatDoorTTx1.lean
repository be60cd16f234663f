/- What functions of the program compute, each function once: steps over the model, and the plain law of it. -/
import Derived.Test.YtkknmpkcfpdllaaGreatDoorTDDel2
import Derived.Test.YtkknmpkcfpdllaaGreatDoorTTxRel
import Derived.Test.YtkknmpkcfpdllaaGreatDoorTFacts
namespace Go.Proofs.YtkknmpkcfpdllaaGreatDoor.B
open Go
set_option linter.unusedVariables false
set_option linter.unusedSimpArgs false
set_option linter.unnecessarySimpa false
variable {B:Nat}
theorem sink_trA {b:Bt} {K n:Nat} {av ids:List Int} {fl:Int} {kv:Ens} (h:TrW B b K n av fl ids kv) (ha:AllOk b) (hr: ∀x,b.view 0=some x->(1<n->2<=x.ents.length)/\(0<n->1<=x.ents.length)) (hBd:256<=B+av.length) :
  ∃b' n' av' fl' ids',b.sink= .ok b'/\Runs b b' 13/\TrA B b' K n' av' fl' ids' kv:=by
 obtain ⟨x,js,hx,hlv,hx8,hids⟩:=SubT.page h.s;have hrx:=hr x hx;have hpg:=page_of_view hx;by_cases h0:n=0
 ·refine ⟨b,n,av,fl,ids, ?_,Runs.refl _ _,h.toA (fun _ _ q=>by omega)⟩;rw [Bt.sink,Bt.sinkF,hpg];simp only [];rw [if_pos (.inl (by omega))]
 by_cases h1:x.ents.length=1
 rotate_left
 ·refine ⟨b,n,av,fl,ids, ?_,Runs.refl _ _,h.toA (fun y hy q=> ?_)⟩
  ·rw [Bt.sink,Bt.sinkF,hpg];simp only [];rw [if_pos (.inr h1)]
  rw [hx] at hy;injection hy with hy;subst hy
  have:=hrx.2 q;omega
 have hn1:n=1:=by
  rcases Nat.lt_or_ge 1 n with q|q
  ·have:=hrx.1 q;omega
  omega
 subst hn1;have hs:=h.s;obtain ⟨js',hjs,x',hx',hlv',hxn,_,⟨v,r,hes⟩,hch⟩:=hs;rw [hx] at hx';injection hx' with hx';subst hx'
 have hr0:r= []:=by rw [hes] at h1;simpa using h1
 subst hr0;rw [hes] at hch;obtain ⟨hv2,e1,e2,Y,hY,hY0,hYn,hYe,hY8,hYs,hYk⟩:=hch;simp only [] at hv2 e1 e2 hY;subst e1;subst e2;subst hjs;have hYid:=h.g.i _ _ hY;have hYr:=h.g.rgi (j:=numberP v) (by simp);have hnd:=List.nodup_cons.1 h.g.ids;have hY0':numberP v≠0:=fun e=>hnd.1 (by rw [e];simp);have hYav:numberP v ∉ av:=fun q=>h.g.dis (j:=numberP v) (by simp) q;have h0av:(0:Int) ∉ av:=fun q=>h.g.dis (j:=0) (by simp) q;obtain ⟨b1,t1,v1⟩:=fill_view (b:=b) (id:=0) (level:=Y.level) (next:= -1) (l:=Y.ents) (by rw [hYe];exact hY8) (by omega) (by omega);rw [hY0,clrK_zero,hYe] at v1;have hA1:AvV B b1.view av:=h.g.m.frame (by rw [v1,upd_other (by omega)]) (fun j hj=>by rw [v1,upd_other (by rintro rfl;exact h0av hj)]);obtain ⟨b2,m,t2,m1,⟨q,q1,v2⟩,hA2⟩:=free_av (p:=numberP v) hA1 (by rw [v1];exact h.g.i.upd rfl) (by omega) hYr.2.1 hYav hBd;have v0:b2.view 0=some ⟨0,0,0, -1,kv⟩:=by rw [v2,upd_other (by omega),upd_other (Ne.symm hY0'),v1,upd_same]
 have hat:atP x 0= .ok (numberP v):=by have:=atP_get (p:=x) (k:=0) (c:=([],v)) (by rw [hes];rfl) hv2;simpa using this
 have hYok:=(ha _ _ (page_of_view hY)).1;have hrr:Runs b b2 13:=(fill_runs ⟨by omega,by omega⟩ ⟨by omega,by omega⟩ ⟨by omega,by omega⟩ hYok.len hYok.ents t1).trans (free_runs hA1 ⟨hYr.1,hYr.2.1⟩ t2) (by decide);refine ⟨b2,0,numberP v::av,0, [0], ?_,hrr,⟨⟨hA2, ?_, ?_, ?_, ?_⟩, ?_, ?_, ?_,fun _ _ q=>by omega, ?_⟩⟩
 ·rw [Bt.sink,Bt.sinkF,hpg];simp only [];rw [if_neg (by rw [h1];simp;omega),hat];simp only [];rw [page_of_view hY];simp only [];rw [t1];simp only [];rw [t2];simp only [];rw [Bt.sinkF,page_of_view v0];simp
 ·rw [v2,v1];refine IdsOk.upd (IdsOk.upd (IdsOk.upd h.g.i ?_) q1) m1;rfl
 ·refine List.nodup_cons.2 ⟨?_,List.nodup_cons.2 ⟨hYav,h.g.avs⟩⟩;show (0:Int) ∉ numberP v::av;simp only [List.mem_cons,not_or];exact ⟨Ne.symm hY0',h0av⟩
 ·intro j hj;simp only [List.mem_append,List.mem_cons,List.not_mem_nil,or_false] at hj;rcases hj with e|e|e
  ·omega
  ·subst e;exact hYr
  exact h.g.rg j (by simp [e])
 ·intro j hj;rcases List.mem_cons.1 hj with e|e
  ·subst e;omega
  exact h.g.a1 j e
 ·exact ⟨rfl,rfl,_,v0,rfl,rfl,rfl,hY8,hYs,hYk⟩
 ·intro j hj hne;simp at hj;exact absurd hj hne
 ·have:=h.c;simp at this ⊢;omega
 intro z hz;rw [v0] at hz;injection hz with hz;subst hz
 have h2:=h.w x hx;simp only [List.tail_cons,wt_cons,wt_nil] at h2 ⊢;rw [pw_some hY,hYe] at h2;omega
theorem snoc2 {α:Type} {l l':List α} {p y z:α} (h:l++ [z]=l'++ [p,y]):z=y:=by have:=congrArg List.getLast? h;simpa using this
theorem delete_trA {b:Bt} {K n:Nat} {av:List Int} {fl:Int} {ids:List Int} {kv:Ens} {key:Bs} (h:TrA B b K n av fl ids kv) (ha:AllOk b) (hk:rightK key=true) (hBd:256<=B+av.length) :
  ∃b' n' av' fl' ids',b.delete key= .ok ((lookKv kv key).isSome,b')/\Runs b b' 27/\TrA B b' K n' av' fl' ids' (delKv kv key):=by
 have hn:=h.lvl;have hk0:key≠ []:=by rintro rfl;simp [rightK] at hk
 obtain ⟨l',ks',y,hd,hy8,hw⟩:=down_n (key:=key) h.g.i n 17 [] [] (by omega) h.g.ids h.s (InR.all key);have hlast:lastPg ([]++l'++ [y])=y:=lastPg_end _ _;obtain ⟨w1,w2,w3,kvL,kvR,lo',hi',hkv,w5,w6,w7,w8,w9⟩:=hw.keys hk0 hw.1;have hlook:lookKv kv key=if (findP y.ents key).2 then some (y.ents.getD (findP y.ents key).1 ([], [])).2 else none:=by rw [hkv,lookKv_right w8,lookKv_left _ w7,lookKv_find]
 have hdk:delKv kv key=kvL++delKv y.ents key++kvR:=by rw [hkv,delKv_right w8,delKv_left _ w7]
 have hdel:b.delete key=(if (findP y.ents key).2=false then .ok (false,b) else match b.doR {page:=y.id,kind:=3,slot:=(findP y.ents key).1} with
  | .fail c o=> .fail c o
  | .ok b=>match ((if 1<([]++l'++ [y]).length/\(y.ents.length:Int) - 1<=2 then b.join (([]++l'++ [y]).getD (([]++l'++ [y]).length - 2) (newPg 0)) (([]++ks').getLastD 0:Nat) else .ok b):Res Bt) with
   | .fail c o=> .fail c o
   | .ok b=>match b.sink with
    | .fail c o=> .fail c o
    | .ok b=> .ok (true,b)):=by
  rw [Bt.delete,if_neg (by rw [hk];simp),Bt.down,hd];simp only [hlast];rfl
 cases hf:(findP y.ents key).2 with
 |false=>
  rw [hf] at hdel hlook;refine ⟨b,n,av,fl,ids,by rw [hdel,hlook];rfl,Runs.refl _ _, ?_⟩;rw [hdk,delKv_none w6.1 hf,<-hkv];exact h
 |true=>
  rw [hf] at hdel hlook;have hlt:=findP_lt hf;obtain ⟨b1,t,v⟩:=doR_view (b:=b) (r:={page:=y.id,kind:=3,slot:=(findP y.ents key).1}) (x:=y) (.inr ⟨by simp,w1⟩) rfl;have he:effP y {page:=y.id,kind:=3,slot:=(findP y.ents key).1}={y with ents:=delKv y.ents key}:=by unfold effP;rw [if_neg (by simp),if_neg (by simp),if_pos rfl,if_pos (by simp only [];omega)];simp only [Int.toNat_natCast];rw [delKv_found _ w6.1 hf]
  rw [he] at v;have hdl:=delKv_len y.ents key;have h1:TrA B b1 (K+0) n av fl ids (kvL++delKv y.ents key++kvR):=leaf_trA h w1 w3 w2 v (by omega) (w9 _ _ (fun j _ hne=>by rw [v,upd_other hne]) (by rw [v,upd_same]) (by omega) (delKv_ok key w6));rw [<-hdk,Nat.add_zero] at h1;have hrc:RcOk {page:=y.id,kind:=3,slot:=(findP y.ents key).1}:=by have hyo:=(ha _ _ (page_of_view w1)).1.id;exact ⟨⟨rfl,rfl,rfl,rfl⟩,hyo,⟨by simp,by simp⟩,⟨by simp only [];omega,by simp only [];omega⟩,by simp,by simp⟩
  have ha1:AllOk b1:=ha.doR hrc t;have hjoin: ∃b2 av2 ids2,((if 1<([]++l'++ [y]).length/\(y.ents.length:Int) - 1<=2 then b1.join (([]++l'++ [y]).getD (([]++l'++ [y]).length - 2) (newPg 0)) (([]++ks').getLastD 0:Nat) else .ok b1):Res Bt)= .ok b2/\Runs b1 b2 13/\TrW B b2 K n av2 fl ids2 (delKv kv key)/\
    (∀x,b2.view 0=some x->(1<n->2<=x.ents.length)/\(0<n->1<=x.ents.length))/\256<=B+av2.length:=by
   split
   rotate_left
   ·exact ⟨b1,av,ids,rfl,Runs.refl _ _,h1.toW,fun x hx=>⟨fun q=>h1.r x hx (by omega),fun q=>by have:=h1.r x hx q;omega⟩,hBd⟩
   rename_i hc;have hc1:1<=l'.length:=by have:=hc.1;simp only [List.nil_append,List.length_append,List.length_cons,List.length_nil] at this;omega
   cases n with
   |zero=>
    exfalso;obtain ⟨_,_,z,hz,hz0,_⟩:=h.s;rw [Bt.downF,page_of_view hz] at hd;simp only [] at hd;rw [if_pos hz0] at hd;injection hd with hd
    injection hd with hd1 hd2
    have:=congrArg List.length hd1;simp only [List.nil_append,List.length_append,List.length_cons,List.length_nil] at this;omega
   |succ m=>
    obtain ⟨l2,ks2,p,y2,hd2,⟨c,hc2,hc3,hc4,hc5⟩,hwp⟩:=down_p (key:=key) h.g.i m 17 [] [] (by omega) h.s (InR.all key);rw [hd] at hd2;injection hd2 with hd2
    injection hd2 with hd3 hd4
    have hyy:y=y2:=snoc2 (by simpa using hd3);subst hyy;have hgl:([]++l'++ [y]).getD (([]++l'++ [y]).length - 2) (newPg 0)=p:=by rw [hd3];simp only [List.nil_append,List.length_append,List.length_cons,List.length_nil];rw [show l2.length+(0+1+1) - 2=l2.length by omega];simp [List.getD]
    have hgk:(([]++ks').getLastD 0:Nat)=childP p key:=by rw [hd4];simp [List.getLastD_eq_getLast?]
    rw [hgl,hgk];obtain ⟨idsL,idsp,idsR,kL,kvp,kR,lo2,hi2,fl2,nx2,hids,hkv2,hp,hS,hin2,hpos,hre⟩:=hwp;have hndp:idsp.Nodup:=by have q:=h.g.ids;rw [hids] at q;exact (List.nodup_append.1 (List.nodup_append.1 q).1).2.1
    have hpl:p.level=1:=by obtain ⟨_,_,z,hz,hz1,_⟩:=hS;rw [hp] at hz;injection hz with hz;subst hz;exact hz1
    obtain ⟨la,ka,ya,hda,hya8,hwa⟩:=down_n (key:=key) h.g.i 1 17 [] [] (by omega) hndp hS hin2;have hyya:ya=y:=by
     rw [Bt.downF,page_of_view hp] at hda;simp only [] at hda;rw [if_neg (by omega),atP_get hc2 hc3] at hda;simp only [] at hda;rw [Bt.downF,page_of_view hc4] at hda;simp only [] at hda;rw [if_pos hc5] at hda;injection hda with hda
     injection hda with hda1 hda2
     have q:la++ [ya]= [p]++ [y]:=by simpa using hda1.symm
     exact snoc2 (l':= []) (p:=p) (by simpa using q)
    subst hyya;obtain ⟨u1,u2,u3,kLa,kRa,lo3,hi3,hkvp,u5,u6,u7,u8,u9⟩:=hwa;have hyp:ya.id≠p.id:=by intro e;rw [e,hp] at w1;injection w1 with w1;subst w1;omega
    have hsub1:=u9 b1.view (delKv ya.ents key) (fun j _ hne=>by rw [v,upd_other hne]) (by rw [v,upd_same]) (by omega) (delKv_ok key u6);have hLn: ∀j∈idsL,j≠ya.id:=by intro j hj e;have q:=h.g.ids;rw [hids] at q;exact (List.nodup_append.1 (List.nodup_append.1 q).1).2.2 j hj ya.id u3 e
    have hRn: ∀j∈idsR,j≠ya.id:=by intro j hj e;have q:=h.g.ids;rw [hids] at q;exact (List.nodup_append.1 q).2.2 ya.id (List.mem_append_right _ u3) j hj e.symm
    have hvL: ∀j∈idsL,b1.view j=b.view j:=fun j hj=>by rw [v,upd_other (hLn j hj)]
    have hvR: ∀j∈idsR,b1.view j=b.view j:=fun j hj=>by rw [v,upd_other (hRn j hj)]
    have hso:=(SubT.kv _ h.s).1;obtain ⟨e0,he0,he0k⟩:=findP_mem _ hf;have hdk2:delKv kv key=kL++(kLa++delKv ya.ents key++kRa)++kR:=by
     rw [hkv2,hkvp] at hso ⊢;have q1:=List.pairwise_append.1 hso;have q2:=List.pairwise_append.1 q1.1;have q3:=List.pairwise_append.1 q2.2.1;have q4:=List.pairwise_append.1 q3.1;rw [delKv_right (R:=kR) (fun e he=>by have:=q1.2.2 e0 (by simp [he0]) e he;rwa [he0k] at this),delKv_left kL (fun e he=>by have:=q2.2.2 e he e0 (by simp [he0]);rwa [he0k] at this),
      delKv_right (R:=kRa) (fun e he=>by have:=q3.2.2 e0 (by simp [he0]) e he;rwa [he0k] at this),delKv_left kLa (fun e he=>by have:=q4.2.2 e he e0 he0;rwa [he0k] at this)]
    have hwp1:WandP b1.view (m+1) 0 [] none fl (-1) ids (delKv kv key) key p:=
     ⟨idsL,idsp,idsR,kL,_,kR,lo2,hi2,fl2,nx2,hids,hdk2,by rw [v,upd_other (Ne.symm hyp)];exact hp,hsub1,hin2,hpos,fun V'' ip kp hL hR hSs=>hre V'' ip kp (fun j hj=>by rw [hL j hj,hvL j hj]) (fun j hj=>by rw [hR j hj,hvR j hj]) hSs⟩
    obtain ⟨b2,av2,ids2,t2,rn2,hW2,hr2,hBd2⟩:=join_trW h1 ha1 hwp1 (List.getElem?_eq_some_iff.1 hc2).1 hBd;exact ⟨b2,av2,ids2,t2,rn2,hW2,fun x hx=>⟨(hr2 x hx).1,fun _=>(hr2 x hx).2⟩,hBd2⟩
  obtain ⟨b2,av2,ids2,t2,rn2,hW2,hr2,hBd2⟩:=hjoin;obtain ⟨b3,n3,av3,fl3,ids3,t3,rn3,h3⟩:=sink_trA hW2 (rn2.ok ha1) hr2 hBd2;refine ⟨b3,n3,av3,fl3,ids3, ?_,((Runs.one t hrc).trans rn2 (Nat.le_refl _)).trans rn3 (Nat.le_refl _),h3⟩;rw [hdel,hlook];simp only [Bool.true_eq_false,if_false,if_true,Option.isSome_some];rw [t];simp only [];rw [t2];simp only [];rw [t3]
theorem HoldsA.delete {b:Bt} {K:Nat} {kv:Ens} {key:Bs} (h:HoldsA B b K kv) (ha:AllOk b) (hk:rightK key=true) (hBK:K+6<=3*B): ∃b',b.delete key= .ok ((lookKv kv key).isSome,b')/\Runs b b' 27/\HoldsA B b' K (delKv kv key):=by obtain ⟨n,av,fl,ids,h⟩:=h;have hpg:=h.pages;have hcc:=h.c;obtain ⟨b',n',av',fl',ids',t,r,h'⟩:=delete_trA h ha hk (by omega);exact ⟨b',t,r,n',av',fl',ids',h'⟩
open Go Go.Proofs
set_option maxRecDepth 20000
set_option maxHeartbeats 8000000
theorem putM_new {k:Int} {v:Value}: ∀{m:List (Int×Value)},k ∉ m.map (·.1)->putM m k v=m++ [(k,v)]
 | [],_=>rfl
 |(q,x)::r,h=>by
  simp only [List.map_cons,List.mem_cons,not_or] at h;simp only [putM];rw [if_neg (fun e=>h.1 e.symm),putM_new h.2];rfl
theorem OpsS.add {D:Sto} {p:Int×Opn} {s:Seg} (h:OpS D p.2 s): ∀{l:List (Int×Opn)} {os:List Seg},OpsS D l os->OpsS D (l++ [p]) (os++ [s])
 | [], [],_=>⟨h,trivial⟩
 |_::l,_::os,⟨h1,h2⟩=>⟨h1,OpsS.add h h2⟩
 | [],_::_,h=>h.elim
 |_::_, [],h=>h.elim
theorem Inv.newopen {w0 w:World} {D:Sto} {ss:List Seg} {x1 x2 n1 n2:Nat×Obj} {os:List Seg} (h:Inv w0 D ([x1]:: [x2]:: [n1]:: [n2]::os.flatten::ss) w):Inv w0 D ((x1::x2::(os++ [[n1,n2]]).flatten)::ss) w:=h.perm (by
 simp only [List.flatten_cons,List.flatten_append,List.flatten_nil,List.append_nil,List.singleton_append,List.cons_append,List.nil_append,List.append_assoc];exact (((List.perm_append_comm_assoc [n1,n2] os.flatten ss.flatten).cons x2).cons x1).symm)
theorem Inv.open_db {w0 w:World} {D:Sto} {ss:List Seg} {x1 x2:Nat×Obj} {t:Seg} (h:Inv w0 D ((x1::x2::t)::ss) w):Inv w0 D ([x1]:: [x2]::t::ss) w:=h.perm (List.Perm.of_eq (by simp))
theorem Inv.shut_db {w0 w:World} {D:Sto} {ss:List Seg} {x1 x2:Nat×Obj} {t:Seg} (h:Inv w0 D ([x1]:: [x2]::t::ss) w):Inv w0 D ((x1::x2::t)::ss) w:=h.perm (List.Perm.of_eq (by simp))
structure DbOk (d:Db):Prop where
 e0:0<=d.epoch
 e1:d.epoch<=1073741824
 b0:0<=d.begun
 b1:d.begun<1048576
 s0:0<=d.seq
 s1:d.seq<=1000000000000
 ids: ∀p∈d.l,d.epoch*1048576<p.1/\p.1<=d.epoch*1048576+d.begun
 len:d.l.length<=16
def Db.room (d:Db):Bool:=decide (d.l.length<16/\d.begun+1<1048576)
def Db.next (d:Db):Int:=d.epoch*1048576+(d.begun+1)
def Db.begin (d:Db) (bo:Nat):Db:={d with begun:=d.begun+1,seq:=d.seq+1,l:=d.l++ [(d.next,⟨0, [],bo⟩)]}
theorem Db.fresh {d:Db} (h:DbOk d):d.next ∉ (d.l.map ptrOf).map (·.1):=by intro hm;simp only [List.map_map,List.mem_map,Function.comp_apply,ptrOf] at hm;obtain ⟨p,hp,he⟩:=hm;have:=(h.ids p hp).2;unfold Db.next at he;omega
theorem DbOk.begin {d:Db} (h:DbOk d) (hr:d.room=true) (bo:Nat) (hs:d.seq+1<=1000000000000):DbOk (d.begin bo):=by
 simp only [Db.room,decide_eq_true_eq] at hr;refine ⟨h.e0,h.e1,by have:=h.b0;show 0<=d.begun+1;omega,hr.2,by have:=h.s0;show 0<=d.seq+1;omega,hs,fun p hp=> ?_,by show (d.l++_).length<=16;simp;omega⟩;have hb:=h.b0;rcases List.mem_append.1 hp with q|q
 ·have:=h.ids p q;exact ⟨this.1,by show p.1<=d.epoch*1048576+(d.begun+1);omega⟩
 simp only [List.mem_singleton] at q;subst q;exact ⟨by show _<d.next;unfold Db.next;show d.epoch*1048576<_;omega,by show d.next<=_;unfold Db.next;exact Int.le_refl _⟩
theorem TxNew_spec {w0 w:World} {D:Sto} {ss:List Seg} (I:Inv w0 D ss w) {ad:Nat->Addr} (hS:TSents D ad) (e:Int) {q:Nat} :
  Calls Tryz.prog 99 #[.int .i64 e, .pointer (some ⟨q,0,none⟩)] w (Ret fun r w'=>(¬(0<=e/\e<=1073741824)/\r= .tuple #[.pointer none,errV ad 105]/\Inv w0 D ss w')\/((0<=e/\e<=1073741824)/\ ∃vd s,r= .tuple #[vd, .nilIface]/\DbS D vd (.pointer (some ⟨q,0,none⟩)) ⟨e,0,0, []⟩ s/\Inv w0 D (s::ss) w')):=by
 refine enter (N:=18) Tryz.func99 rfl rfl rfl ?_;intro a Z;refine go 7 Z I ?_;clear Z a;intro a Z;refine cmx Z ?_ ?_
 ·intro he0;replace he0:=lss_t he0;clear Z a;intro a Z;refine go 6 Z I ?_;clear Z a;intro a Z;refine wp_seq ?_;refine d_start [] [] (by kernel_rfl) I rfl rfl ?_;clear I w;intro w I;obtain ⟨T_1,fr_1,hg_1⟩:=hS.g105;refine dl 0 Z rfl (fun w hS=>f_load rfl scal_38 (Inv.data hS _ _ (hg_1)) rfl) (I) (listed':= #[true,false,false]) ?_;clear Z a;intro a Z;refine dp 1 Z rfl (p_assign rfl) (fun _=>I) ?_;clear Z a;intro a Z;refine dp 2 Z rfl (p_assign rfl) (fun _=>I) ?_;clear Z a;intro a Z;refine dnx ?_;refine gc 3 Z ?_;refine ret2 rfl Z rfl rfl ?_;exact .inl ⟨by omega,rfl,I⟩
 intro he0;replace he0:=lss_f he0;clear Z a;intro a Z;refine go 2 Z I ?_;clear Z a;intro a Z;refine cgx Z ?_ ?_
 ·intro he1;replace he1:=gtr_t he1;clear Z a;intro a Z;refine go 3 Z I ?_;clear Z a;intro a Z;refine wp_seq ?_;refine d_start [] [] (by kernel_rfl) I rfl rfl ?_;clear I w;intro w I;obtain ⟨T_2,fr_2,hg_2⟩:=hS.g105;refine dl 0 Z rfl (fun w hS=>f_load rfl scal_38 (Inv.data hS _ _ (hg_2)) rfl) (I) (listed':= #[true,false,false]) ?_;clear Z a;intro a Z;refine dp 1 Z rfl (p_assign rfl) (fun _=>I) ?_;clear Z a;intro a Z;refine dp 2 Z rfl (p_assign rfl) (fun _=>I) ?_;clear Z a;intro a Z;refine dnx ?_;refine gc 3 Z ?_;refine ret2 rfl Z rfl rfl ?_;exact .inl ⟨by omega,rfl,I⟩
 intro he1;replace he1:=gtr_f he1;clear Z a;intro a Z;refine go 8 Z I ?_;clear Z a;intro a Z;refine l_step rfl (f_makeMap Z I rfl rfl rfl ?_);clear I Z a w;intro a b3 w Z I;refine zs Z (f_build (vs:= [(0,_),(1,_),(3,_)]) (l:= [_,_,_,_,_]) rfl built_175 rfl) ?_;clear Z a;intro a Z;refine l_step rfl (f_box (cs:= #[_,_,_,_,_]) Z I rfl rfl rfl rfl rfl ?_);clear I Z a w;intro a b4 w Z I;refine go 4 Z I ?_;clear Z a;intro a Z;refine ret2 rfl Z rfl rfl ?_;exact .inr ⟨by omega,_,_,rfl,⟨_,b3, #[],0, [],rfl,rfl,IntMap.empty,trivial⟩,Inv.shut_db (t:= []) (I.perm (List.Perm.of_eq (by simp)))⟩
theorem Begin_spec {w0 w:World} {D:Sto} {ss:List Seg} {s:Seg} {vd vp:Value} {d:Db} (I:Inv w0 D (s::ss) w) {ad:Nat->Addr} (hS:TSents D ad) (hd:DbS D vd vp d s) (hdb:DbOk d) :
  Calls Tryz.prog 47 #[vd] w (Ret fun r w'=>(d.room=false/\r= .tuple #[.int .i64 0,errV ad 109]/\DbS D vd vp d s/\Inv w0 D (s::ss) w')\/(d.room=true/\ ∃bo s',r= .tuple #[.int .i64 d.next, .nilIface]/\DbS D vd vp (d.begin bo) s'/\Inv w0 D (s'::ss) w')):=by
 have hdb9:=hdb;have hfr:=Db.fresh hdb;have hll:((d.l.map ptrOf).length:Int)=d.l.length:=by simp
 obtain ⟨bd,bl,esl,clkl,os,rfl,rfl,hml,hos⟩:=hd;obtain ⟨e0,e1,b0,b1,s0,s1,hids,hlen⟩:=hdb;replace I:=I.open_db;refine enter (N:=53) Tryz.func47 rfl rfl rfl ?_;intro a Z;refine go 7 Z I ?_;clear Z a;intro a Z;refine zs Z (p_nilCheck rfl) ?_;clear Z a;intro a Z;refine go 2 Z I ?_;clear Z a;intro a Z;refine zl Z (r_lenM rfl rfl Tryz.underlying173 (I.seg 1 rfl) hml) ?_;clear Z a;intro a Z;refine cmx Z ?_ ?_
 ·intro hfull;replace hfull:=geq_t hfull;clear Z a;intro a Z;refine go 10 Z I ?_;clear Z a;intro a Z;refine wp_seq ?_;refine d_start [] [] (by kernel_rfl) I rfl rfl ?_;clear I w;intro w I;obtain ⟨T_1,fr_1,hg_1⟩:=hS.g109;refine dl 0 Z rfl (fun w hS=>f_load rfl scal_38 (Inv.data hS _ _ (hg_1)) rfl) (I) (listed':= #[true,false,false]) ?_;clear Z a;intro a Z;refine dp 1 Z rfl (p_assign rfl) (fun _=>I) ?_;clear Z a;intro a Z;refine dp 2 Z rfl (p_assign rfl) (fun _=>I) ?_;clear Z a;intro a Z;refine dnx ?_;refine gc 3 Z ?_;refine ret2 rfl Z rfl rfl ?_;exact .inl ⟨by simp only [Db.room,decide_eq_false_iff_not];omega,rfl,⟨bd,bl,_,_,os,rfl,rfl,hml,hos⟩,I.shut_db⟩
 intro hfull;replace hfull:=geq_f hfull;clear Z a;intro a Z;refine go 2 Z I ?_;clear Z a;intro a Z;refine gs Z (p_nilCheck rfl) ?_;clear Z a;intro a Z;refine go 2 Z I ?_;clear Z a;intro a Z;refine gs Z (p_arith (z:=d.begun+1) rfl rfl (add_z rfl (by omega) (by omega))) ?_;clear Z a;intro a Z;refine cgx Z ?_ ?_
 ·intro hmany;replace hmany:=geq_t hmany;clear Z a;intro a Z;refine go 3 Z I ?_;clear Z a;intro a Z;refine wp_seq ?_;refine d_start [] [] (by kernel_rfl) I rfl rfl ?_;clear I w;intro w I;obtain ⟨T_2,fr_2,hg_2⟩:=hS.g109;refine dl 0 Z rfl (fun w hS=>f_load rfl scal_38 (Inv.data hS _ _ (hg_2)) rfl) (I) (listed':= #[true,false,false]) ?_;clear Z a;intro a Z;refine dp 1 Z rfl (p_assign rfl) (fun _=>I) ?_;clear Z a;intro a Z;refine dp 2 Z rfl (p_assign rfl) (fun _=>I) ?_;clear Z a;intro a Z;refine dnx ?_;refine gc 3 Z ?_;refine ret2 rfl Z rfl rfl ?_;exact .inl ⟨by simp only [Db.room,decide_eq_false_iff_not];omega,rfl,⟨bd,bl,_,_,os,rfl,rfl,hml,hos⟩,I.shut_db⟩
 intro hmany;replace hmany:=geq_f hmany;clear Z a;intro a Z;refine go 7 Z I ?_;clear Z a;intro a Z;refine zs Z (p_nilCheck rfl) ?_;clear Z a;intro a Z;refine go 2 Z I ?_;clear Z a;intro a Z;refine zs Z (p_arith (z:=d.begun+1) rfl rfl (add_z rfl (by omega) (by omega))) ?_;clear Z a;intro a Z;refine zs Z (p_nilCheck rfl) ?_;clear Z a;intro a Z;refine zs Z (p_fieldAddr (m:=2) rfl fo_175_2 rfl) ?_;clear Z a;intro a Z;refine l_step rfl (f_store (l:= [_,_,_,_,_]) (ss':=_::_) 0 Z I rfl rfl rfl rfl rfl sz_3 (by simp [Value.cells,Value.oneCell',pgCells,rcCells,zPg,errV]) rfl rfl rfl ?_);clear I w;intro w I;refine go 3 Z I ?_;clear Z a;intro a Z;refine zs Z (p_nilCheck rfl) ?_;clear Z a;intro a Z;refine go 2 Z I ?_;clear Z a;intro a Z;refine zs Z (p_arith (z:=d.seq+1) rfl rfl (add_z rfl (by omega) (by omega))) ?_;clear Z a;intro a Z;refine zs Z (p_nilCheck rfl) ?_;clear Z a;intro a Z;refine zs Z (p_fieldAddr (m:=4) rfl fo_175_4 rfl) ?_;clear Z a;intro a Z;refine l_step rfl (f_store (l:= [_,_,_,_,_]) (ss':=_::_) 0 Z I rfl rfl rfl rfl rfl sz_3 (by simp [Value.cells,Value.oneCell',pgCells,rcCells,zPg,errV]) rfl rfl rfl ?_);clear I w;intro w I;refine wnt ?_;refine wp_seq ?_;refine d_start [] [] (by kernel_rfl) I rfl rfl ?_;clear I w;intro w I;refine dp 0 Z rfl (p_move rfl) (fun _=>I) (listed':= #[true,false,false,false,false,false,false,false,false,false,false]) ?_;clear Z a;intro a Z;refine dp 1 Z rfl (p_nilCheck rfl) (fun _=>I) ?_;clear Z a;intro a Z;refine dp 2 Z rfl (p_fieldAddr (m:=0) rfl fo_175_0 rfl) (fun _=>I) ?_;clear Z a;intro a Z;refine dl 3 Z rfl (fun w hS=>f_load rfl scal_3 (Inv.seg 0 hS rfl) rfl) (I) ?_;clear Z a;intro a Z;refine dp 4 Z rfl (p_arith (z:=d.epoch*1048576) rfl rfl (mul_z rfl (by omega) (by omega))) (fun _=>I) ?_;clear Z a;intro a Z;refine dp 5 Z rfl (p_move rfl) (fun _=>I) ?_;clear Z a;intro a Z;refine dp 6 Z rfl (p_nilCheck rfl) (fun _=>I) ?_;clear Z a;intro a Z;refine dp 7 Z rfl (p_fieldAddr (m:=2) rfl fo_175_2 rfl) (fun _=>I) ?_;clear Z a;intro a Z;refine dl 8 Z rfl (fun w hS=>f_load rfl scal_3 (Inv.seg 0 hS rfl) rfl) (I) ?_;clear Z a;intro a Z;refine dp 9 Z rfl (p_arith (z:=d.next) rfl rfl (add_z rfl (by unfold Db.next;omega) (by unfold Db.next;omega))) (fun _=>I) ?_;clear Z a;intro a Z;refine dp 10 Z rfl (p_assign rfl) (fun _=>I) ?_;clear Z a;intro a Z;refine dnx ?_;refine go 3 Z I ?_;clear Z a;intro a Z;refine zs Z (p_nilCheck rfl) ?_;clear Z a;intro a Z;refine go 3 Z I ?_;clear Z a;intro a Z;refine l_step rfl (f_makeMap Z I rfl rfl rfl ?_);clear I Z a w;intro a b3 w Z I;refine zs Z (f_build (vs:= [(1,_)]) (l:= [_,_]) rfl built_179 rfl) ?_;clear Z a;intro a Z;refine l_step rfl (f_box (cs:= #[_,_]) Z I rfl rfl rfl rfl rfl ?_);clear I Z a w;intro a b4 w Z I;refine l_step rfl (o_mapUpdate 3 Z I rfl (.inl rfl) rfl rfl rfl ik_173 rfl hml ?_);clear I w;intro es_5 clk_5 w hm_5 I;refine go 7 Z I ?_;clear Z a;intro a Z;refine ret2 rfl Z rfl rfl ?_;replace I:=I.bring 4;replace I:=I.bring 2;replace I:=I.bring 2;replace I:=I.bring 4;replace I:=I.bring 4;refine .inr ⟨by simp only [Db.room,decide_eq_true_eq];omega,_,_,rfl,⟨bd,bl,_,_,os++ [_],rfl,rfl, ?_,OpsS.add (p:=(d.next,⟨0, [],_⟩)) ⟨_,_,_, [],rfl,StrMap.empty,trivial⟩ hos⟩,I.newopen⟩;have hm9:=hm_5;rw [putM_new hfr] at hm9;simpa [Db.begin,ptrOf] using hm9
end Go.Proofs.YtkknmpkcfpdllaaGreatDoor.B
