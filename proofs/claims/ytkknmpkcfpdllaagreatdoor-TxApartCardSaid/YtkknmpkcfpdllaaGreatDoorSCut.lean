/- A program logic over the model: what is owned, what is written no more, and one lemma for each kind of step. -/
import Derived.Test.YtkknmpkcfpdllaaGreatDoorTTx4
import Derived.Test.YtkknmpkcfpdllaaGreatDoorTWaitRel
import Derived.Test.YtkknmpkcfpdllaaGreatDoorTTree7
namespace Go.Proofs.YtkknmpkcfpdllaaGreatDoor.B
open Go
set_option linter.unusedVariables false
set_option linter.unusedSimpArgs false
set_option linter.unnecessarySimpa false
variable {B:Nat}
def usrOf (e:Bs×Bs):Bs×Bs:=(107::e.1,e.2)
def kvOf (U:Ens) (es:List Ent):Ens:=U.map usrOf++es.map ueOf
theorem ltB_same (x:Nat) (a b:Bs):ltB (x::a) (x::b)=ltB a b:=by simp [ltB]
theorem und_gt (key:Bs) (es:List Ent): ∀e∈es.map ueOf,ltB (107::key) e.1=true:=fun e he=>by
 obtain ⟨b,_,rfl⟩:=List.mem_map.1 he;exact ltB_user key _ _
theorem usr_lt (U:Ens) (t n:Int): ∀e∈U.map usrOf,ltB e.1 (keyL t n)=true:=fun e he=>by
 obtain ⟨b,_,rfl⟩:=List.mem_map.1 he;exact ltB_user _ _ _
theorem look_usrs (u:Bs): ∀U:Ens,lookKv (U.map usrOf) (107::u)=lookKv U u
 | []=>rfl
 |e::r=>by
  have ih:=look_usrs u r;show (if ltB (107::e.1) (107::u) then lookKv (r.map usrOf) (107::u) else if 107::e.1=107::u then some e.2 else none)=(if ltB e.1 u then lookKv r u else if e.1=u then some e.2 else none);rw [ltB_same,ih];simp only [List.cons.injEq,true_and]
theorem kv_look (U:Ens) (es:List Ent) (u:Bs):lookKv (kvOf U es) (107::u)=lookKv U u:=by rw [kvOf,lookKv_right (und_gt u es),look_usrs]
theorem ins_usrs (u v:Bs): ∀U:Ens,insKv (U.map usrOf) (107::u) v=(insKv U u v).map usrOf
 | []=>rfl
 |e::r=>by
  have ih:=ins_usrs u v r;show (if ltB (107::e.1) (107::u) then usrOf e::insKv (r.map usrOf) (107::u) v else if 107::e.1=107::u then (107::e.1,v)::r.map usrOf else (107::u,v)::usrOf e::r.map usrOf)=(if ltB e.1 u then e::insKv r u v else if e.1=u then (e.1,v)::r else (u,v)::e::r).map usrOf;rw [ltB_same,ih];simp only [List.cons.injEq,true_and];split
  ·rfl
  split<;>rfl
theorem kv_ins (U:Ens) (es:List Ent) (u v:Bs):insKv (kvOf U es) (107::u) v=kvOf (insKv U u v) es:=by rw [kvOf,insKv_right (und_gt u es),ins_usrs,kvOf]
theorem del_usrs (u:Bs) (U:Ens):delKv (U.map usrOf) (107::u)=(delKv U u).map usrOf:=by rw [delKv,delKv,List.filter_map];congr 1;apply List.filter_congr;intro e _;simp [usrOf]
theorem kv_del (U:Ens) (es:List Ent) (u:Bs):delKv (kvOf U es) (107::u)=kvOf (delKv U u) es:=by rw [kvOf,delKv_right (und_gt u es),del_usrs,kvOf]
theorem kv_note {U:Ens} {es:List Ent} {e:Ent} (he:e.Ok) (h: ∀a∈es,a.Ok):insKv (kvOf U es) (keyL e.tx e.n) e.enc=kvOf U (withE es e):=by rw [kvOf,insKv_left _ (usr_lt U _ _),<-with_ins he es h,kvOf]
theorem kv_forget {U:Ens} {es:List Ent} {t n:Int} (ht:1<=t/\t<=2251799813685248/\0<=n/\n<12) (h: ∀a∈es,a.Ok):delKv (kvOf U es) (keyL t n)=kvOf U (es.filter fun a=>decide (¬(a.tx=t/\a.n=n))):=by rw [kvOf,delKv_left _ (usr_lt U _ _),kvOf];congr 1;rw [delKv,List.filter_map];congr 1;apply List.filter_congr;intro a ha;have h2:=key_eq (h a ha).1 ht;simp [ueOf,h2]
theorem with_sorted {e:Ent}: ∀l:List Ent,l.Pairwise befE->(withE l e).Pairwise befE
 | [],_=>by simp [withE]
 |a::r,h=>by
  have h':=List.pairwise_cons.1 h;rw [withE];split
  ·rename_i hk;refine List.pairwise_cons.2 ⟨fun x hx=> ?_,with_sorted r h'.2⟩;rcases with_mem r hx with q|q
   ·subst q;exact hk
   exact h'.1 x q
  split
  ·rename_i h1 h2;refine List.pairwise_cons.2 ⟨fun x hx=> ?_,h'.2⟩;have:=h'.1 x hx;unfold befE at this ⊢;omega
  rename_i h1 h2;have h3:befE e a:=by unfold befE at h1 ⊢;omega
  refine List.pairwise_cons.2 ⟨fun x hx=> ?_,h⟩;rcases List.mem_cons.1 hx with q|q
  ·subst q;exact h3
  have:=h'.1 x q;unfold befE at this h3 ⊢;omega
theorem with_new_mem {e:Ent}: ∀l:List Ent,(∀a∈l,¬(a.tx=e.tx/\a.n=e.n))-> ∀x,x∈withE l e↔x=e\/x∈l
 | [],_,x=>by simp [withE]
 |a::r,h,x=>by
  have ih:=with_new_mem r (fun b hb=>h b (by simp [hb])) x;rw [withE];split
  ·rw [List.mem_cons,ih,List.mem_cons];constructor
   ·rintro (q|q|q)<;>simp [q]
   rintro (q|q|q)<;>simp [q]
  rw [if_neg (h a (by simp)),List.mem_cons,List.mem_cons]
theorem lookO_none {l:List Ent} {key:Bs} (h:lookO l key=none): ∀e∈l,e.key≠key:=fun e he q=>by
 rw [lookO,List.find?_eq_none] at h;have:=h e he;simp [q] at this
theorem lookO_no {l:List Ent} {key:Bs} (h: ∀e∈l,e.key≠key):lookO l key=none:=by rw [lookO,List.find?_eq_none];intro e he;simpa using h e he
theorem lookO_some {l:List Ent} {key:Bs} {e:Ent} (h:lookO l key=some e):e∈l/\e.key=key:=by rw [lookO] at h;exact ⟨List.mem_of_find?_eq_some h,by have:=List.find?_some h;simpa using this⟩
theorem lookKv_in {k v:Bs}: ∀{l:Ens},lookKv l k=some v-> ∃e∈l,e.1=k/\e.2=v
 | [],h=>by simp [lookKv] at h
 |a::r,h=>by
  rw [lookKv] at h;split at h
  ·obtain ⟨e,h1,h2⟩:=lookKv_in h;exact ⟨e,by simp [h1],h2⟩
  split at h
  ·rename_i h2;injection h with h;exact ⟨a,by simp,h2,h⟩
  cases h
structure TxI (B:Nat) (d:Db) (P:Pl) (n:Int) (K:Nat) (U:Ens) (es:List Ent):Prop where
 ok:DbOk d
 ph:PHoldsA B P n K (kvOf U es)
 n1:1<=n
 us:Sorted U
 ub: ∀e∈U,(1<=e.1.length/\e.1.length<=20)/\e.2.length<=24
 eok: ∀e∈es,e.Ok
 srt:es.Pairwise befE
 mem: ∀e,e∈es↔ ∃p∈d.l,e∈p.2.old
 ids:d.l.Pairwise fun p q=>p.1<q.1
 own: ∀p∈d.l,∀e∈p.2.old,e.tx=p.1/\e.n<p.2.n
 old: ∀p∈d.l,p.2.old.Pairwise fun a b=>a.n<b.n/\a.key≠b.key
 n12: ∀p∈d.l,p.2.n<=12
 exc: ∀p∈d.l,∀q∈d.l,p.1≠q.1-> ∀e∈p.2.old,lookO q.2.old e.key=none
theorem TxI.holds {d:Db} {P:Pl} {n:Int} {K:Nat} {U:Ens} {es:List Ent} (h:TxI B d P n K U es):HoldsA B (newBt P) K (kvOf U es):=h.ph.2
theorem TxI.all {d:Db} {P:Pl} {n:Int} {K:Nat} {U:Ens} {es:List Ent} (h:TxI B d P n K U es):AllOk (newBt P):=AllOk.new h.ph.1
theorem TxI.count {d d':Db} {P:Pl} {n:Int} {K:Nat} {U:Ens} {es:List Ent} (h:TxI B d P n K U es) (hl:d'.l=d.l) (hd:DbOk d'):TxI B d' P n K U es:=
 ⟨hd,h.ph,h.n1,h.us,h.ub,h.eok,h.srt,fun e=>by rw [hl];exact h.mem e,by rw [hl];exact h.ids,fun p hp=>h.own p (hl▸hp),fun p hp=>h.old p (hl▸hp),fun p hp=>h.n12 p (hl▸hp),fun p hp q hq=>h.exc p (hl▸hp) q (hl▸hq)⟩
theorem TxI.tx {d:Db} {P:Pl} {n:Int} {K:Nat} {U:Ens} {es:List Ent} (h:TxI B d P n K U es) {p:Int×Opn} (hp:p∈d.l):1<=p.1/\p.1<=2251799813685248:=by have h1:=h.ok.ids p hp;have:=h.ok.e0;have:=h.ok.e1;have:=h.ok.b1;omega
theorem TxI.uniq {d:Db} {P:Pl} {n:Int} {K:Nat} {U:Ens} {es:List Ent} (h:TxI B d P n K U es) {p q:Int×Opn} (hp:p∈d.l) (hq:q∈d.l) (he:p.1=q.1):p=q:=by
 have: ∀l:List (Int×Opn),l.Pairwise (fun p q=>p.1<q.1)-> ∀p∈l,∀q∈l,p.1=q.1->p=q:=by
  intro l;induction l with
  |nil=>intro _ p hp;simp at hp
  |cons a r ih=>
   intro hl p hp q hq he;have h':=List.pairwise_cons.1 hl;rcases List.mem_cons.1 hp with e1|e1<;>rcases List.mem_cons.1 hq with e2|e2
   ·rw [e1,e2]
   ·have:=h'.1 q e2;rw [<-e1] at this;omega
   ·have:=h'.1 p e1;rw [<-e2] at this;omega
   exact ih h'.2 p e1 q e2 he
 exact this _ h.ids p hp q hq he
theorem TxI.begin {d:Db} {P:Pl} {n:Int} {K:Nat} {U:Ens} {es:List Ent} (h:TxI B d P n K U es) (hr:d.room=true) (bo:Nat) (hs:d.seq+1<=1000000000000):TxI B (d.begin bo) P n K U es:=by
 have hmem: ∀p,p∈(d.begin bo).l↔p∈d.l\/p=(d.next,⟨0, [],bo⟩):=fun p=>by show p∈d.l++ [_]↔_;simp
 refine ⟨h.ok.begin hr bo hs,h.ph,h.n1,h.us,h.ub,h.eok,h.srt,fun e=> ?_, ?_,fun p hp=> ?_,fun p hp=> ?_,fun p hp=> ?_,fun p hp q hq hne e he=> ?_⟩
 ·rw [h.mem];constructor
  ·rintro ⟨p,hp,he⟩;exact ⟨p,(hmem p).2 (.inl hp),he⟩
  rintro ⟨p,hp,he⟩;rcases (hmem p).1 hp with q|q
  ·exact ⟨p,q,he⟩
  subst q;simp at he
 ·show (d.l++ [_]).Pairwise _;refine List.pairwise_append.2 ⟨h.ids,by simp,fun p hp q hq=> ?_⟩;obtain rfl:q=(d.next,⟨0, [],bo⟩):=by simpa using hq
  have:=(h.ok.ids p hp).2;show p.1<d.next;unfold Db.next;omega
 ·rcases (hmem p).1 hp with q|q
  ·exact h.own p q
  subst q;intro e he;simp at he
 ·rcases (hmem p).1 hp with q|q
  ·exact h.old p q
  subst q;simp
 ·rcases (hmem p).1 hp with q|q
  ·exact h.n12 p q
  subst q;exact Nat.zero_le _
 rcases (hmem p).1 hp with q1|q1
 ·rcases (hmem q).1 hq with q2|q2
  ·exact h.exc p q1 q q2 hne e he
  subst q2;rfl
 subst q1;simp at he
def Db.wr (d:Db) (tx:Int) (again:Bool) (e:Ent):Db:={d with l:=d.l.map fun p=>if p.1=tx then (p.1,p.2.wrote again e) else p}
theorem wr_mem {d:Db} {tx:Int} {again:Bool} {e:Ent} {q:Int×Opn}:q∈(d.wr tx again e).l↔ ∃p∈d.l,q=if p.1=tx then (p.1,p.2.wrote again e) else p:=by
 show q∈d.l.map _↔_;rw [List.mem_map];constructor
 ·rintro ⟨p,hp,rfl⟩;exact ⟨p,hp,rfl⟩
 rintro ⟨p,hp,rfl⟩;exact ⟨p,hp,rfl⟩
def getE (tx:Int) (n:Nat) (key:Bs) (vo:Option Bs):Ent:=⟨tx,n,key,vo.isSome,vo.getD []⟩
def Opn.again (o:Opn) (key:Bs):Bool:=(lookO o.old key).isSome
theorem TxI.wrote {d:Db} {P P':Pl} {n n':Int} {K K':Nat} {U U':Ens} {es:List Ent} (h:TxI B d P n K U es) {tx:Int} {o:Opn} {key:Bs} (hp:(tx,o)∈d.l) (hn:o.n<12)
  (hk:1<=key.length/\key.length<=20) (hoth: ∀p∈d.l,p.1≠tx->lookO p.2.old key=none) (hn':n<=n') (us':Sorted U') (ub': ∀e∈U',(1<=e.1.length/\e.1.length<=20)/\e.2.length<=24)
  (ph':PHoldsA B P' n' K' (kvOf U' (if o.again key then es else withE es (getE tx o.n key (lookKv U key))))) :
  TxI B (d.wr tx (o.again key) (getE tx o.n key (lookKv U key))) P' n' K' U' (if o.again key then es else withE es (getE tx o.n key (lookKv U key))):=by
 have htx:=h.tx hp;have hval:((lookKv U key).getD []).length<=24:=by
  cases hl:lookKv U key with
  |none=>exact Nat.zero_le _
  |some v=>
   obtain ⟨e,he,_,rfl⟩:=lookKv_in hl;exact (h.ub e he).2
 have hok:(getE tx o.n key (lookKv U key)).Ok:=by
  refine ⟨⟨htx.1,htx.2,by show (0:Int)<=(o.n:Nat);omega,by show ((o.n:Nat):Int)<12;omega⟩,hk,hval, ?_⟩;cases hl:lookKv U key with
  |none=>exact .inr rfl
  |some v=>exact .inl rfl
 have hother: ∀p∈d.l,p.1=tx->p.2=o:=fun p hp' he=>by have:=h.uniq hp' hp he;rw [this]
 generalize Z:getE tx o.n key (lookKv U key)=E at*;have hEt:E.tx=tx:=by rw [<-Z];rfl
 have hEn:E.n=(o.n:Nat):=by rw [<-Z];rfl
 have hEk:E.key=key:=by rw [<-Z];rfl
 have hfresh: ∀a∈es,¬(a.tx=E.tx/\a.n=E.n):=fun a ha ⟨q1,q2⟩=>by
  obtain ⟨p,hp',hm⟩:=(h.mem a).1 ha;have h1:=h.own p hp' a hm;have h2:=hother p hp' (by rw [<-h1.1,q1,hEt]);rw [h2] at h1;omega
 have hold: ∀p∈d.l,∀x,x∈(if p.1=tx then (p.1,p.2.wrote (o.again key) E) else p).2.old↔x∈p.2.old\/(p.1=tx/\o.again key=false/\x=E):=fun p hp' x=>by
  by_cases q:p.1=tx
  ·rw [if_pos q];show x∈(if o.again key=true then p.2.old else p.2.old++ [E])↔_;cases hag:o.again key<;>simp [q]
  rw [if_neg q];simp [q]
 have hfst: ∀p:Int×Opn,(if p.1=tx then (p.1,p.2.wrote (o.again key) E) else p).1=p.1:=fun p=>by split<;>rfl
 refine ⟨⟨h.ok.e0,h.ok.e1,h.ok.b0,h.ok.b1,h.ok.s0,h.ok.s1,fun q hq=> ?_, ?_⟩,ph',by have:=h.n1;omega,us',ub', ?_, ?_,fun x=> ?_, ?_,fun q hq=> ?_,fun q hq=> ?_,fun q hq=> ?_,fun q hq r hr hne x hx=> ?_⟩
 ·obtain ⟨p,hp',rfl⟩:=wr_mem.1 hq;rw [hfst];exact h.ok.ids p hp'
 ·show (d.l.map _).length<=16;rw [List.length_map];exact h.ok.len
 ·intro a ha;split at ha
  ·exact h.eok a ha
  rcases with_mem es ha with q|q
  ·rw [q];exact hok
  exact h.eok a q
 ·split
  ·exact h.srt
  exact with_sorted es h.srt
 ·have e1:(x∈if o.again key=true then es else withE es E)↔x∈es\/(o.again key=false/\x=E):=by
   cases hag:o.again key
   ·simp only [Bool.false_eq_true,if_false,with_new_mem es hfresh,true_and];exact Or.comm
   simp
  rw [e1,h.mem];constructor
  ·rintro (⟨p,hp',hx⟩|⟨hag,rfl⟩)
   ·exact ⟨_,wr_mem.2 ⟨p,hp',rfl⟩,(hold p hp' x).2 (.inl hx)⟩
   exact ⟨_,wr_mem.2 ⟨(tx,o),hp,rfl⟩,(hold (tx,o) hp x).2 (.inr ⟨rfl,hag,rfl⟩)⟩
  rintro ⟨q,hq,hx⟩;obtain ⟨p,hp',rfl⟩:=wr_mem.1 hq;rcases (hold p hp' x).1 hx with hx|⟨_,hag,rfl⟩
  ·exact .inl ⟨p,hp',hx⟩
  exact .inr ⟨hag,rfl⟩
 ·show (d.l.map _).Pairwise _;rw [List.pairwise_map];exact h.ids.imp (fun {a b} hab=>by rw [hfst,hfst];exact hab)
 ·obtain ⟨p,hp',rfl⟩:=wr_mem.1 hq;intro x hx;rw [hfst];have hnn:p.2.n<=(if p.1=tx then (p.1,p.2.wrote (o.again key) E) else p).2.n:=by
   split
   ·exact Nat.le_succ _
   exact Nat.le_refl _
  rcases (hold p hp' x).1 hx with hx|⟨q,hag,rfl⟩
  ·have:=h.own p hp' x hx;exact ⟨this.1,by omega⟩
  refine ⟨by rw [hEt,q], ?_⟩;rw [if_pos q,hEn];have:=hother p hp' q;show ((o.n:Nat):Int)<((p.2.n+1:Nat):Int);rw [this];omega
 ·obtain ⟨p,hp',rfl⟩:=wr_mem.1 hq;by_cases q:p.1=tx
  ·rw [if_pos q];have ho:=hother p hp' q;show (if o.again key=true then p.2.old else p.2.old++ [E]).Pairwise _;cases hag:o.again key
   ·simp only [Bool.false_eq_true,if_false];refine List.pairwise_append.2 ⟨h.old p hp',by simp,fun a ha b hb=> ?_⟩;obtain rfl:b=E:=by simpa using hb
    have h1:=h.own p hp' a ha;have h2:lookO o.old key=none:=by
     unfold Opn.again at hag;cases hl:lookO o.old key with
     |none=>rfl
     |some z=>rw [hl] at hag;simp at hag
    rw [ho] at ha h1;exact ⟨by rw [hEn];exact h1.2,by rw [hEk];exact lookO_none h2 a ha⟩
   simp only [if_true];exact h.old p hp'
  rw [if_neg q];exact h.old p hp'
 ·obtain ⟨p,hp',rfl⟩:=wr_mem.1 hq;by_cases q:p.1=tx
  ·rw [if_pos q];have:=hother p hp' q;show p.2.n+1<=12;rw [this];omega
  rw [if_neg q];exact h.n12 p hp'
 obtain ⟨p,hp',rfl⟩:=wr_mem.1 hq;obtain ⟨s,hs',rfl⟩:=wr_mem.1 hr;rw [hfst,hfst] at hne;refine lookO_no fun y hy hyx=> ?_;rcases (hold p hp' x).1 hx with hx2|⟨q1,hag,rfl⟩
 ·rcases (hold s hs' y).1 hy with hy2|⟨q2,hag,q3⟩
  ·exact lookO_none (h.exc p hp' s hs' hne x hx2) y hy2 hyx
  rw [q3,hEk] at hyx;exact lookO_none (hoth p hp' (by rw [<-q2];exact hne)) x hx2 hyx.symm
 rcases (hold s hs' y).1 hy with hy2|⟨q2,hag,q3⟩
 ·rw [hEk] at hyx;exact lookO_none (hoth s hs' (by rw [<-q1];exact fun e=>hne e.symm)) y hy2 hyx
 exact hne (by rw [q1,q2])
def LaidTo (P:Pl) (n:Int) (recs:List Rc) (P':Pl):Prop:=laidP P recs n=some (P',n+recs.length)
theorem TxI.write {d:Db} {P:Pl} {n:Int} {K K1 c1:Nat} {U U':Ens} {es:List Ent} {b1:Bt} (h:TxI B d P n K U es) {tx:Int} {o:Opn} {key:Bs} (hp:(tx,o)∈d.l) (hn:o.n<12)
  (hk:1<=key.length/\key.length<=20) (hoth: ∀p∈d.l,p.1≠tx->lookO p.2.old key=none) (us':Sorted U') (ub': ∀e∈U',(1<=e.1.length/\e.1.length<=20)/\e.2.length<=24)
  (hr1:Runs (newBt P) b1 c1) (hb1:HoldsA B b1 K1 (kvOf U' es)) (hK1:K1<=735) (hc1:c1<=1000) (hn9:n<=1000000000) :
  (getE tx o.n key (lookKv U key)).Ok/\((lookKv U key).getD []).length<=24/\(b1.pool=P.f/\b1.recs.length<=c1)/\ ∃b2,(o.again key=false->b1.put (keyL tx o.n) (getE tx o.n key (lookKv U key)).enc= .ok b2/\b2.pool=P.f/\b2.recs.length<=c1+601)/\
   ∃P',LaidTo P n (if o.again key then b1.recs else b2.recs) P'/\(if o.again key then b1.recs else b2.recs).length<=c1+601/\
    TxI B (d.wr tx (o.again key) (getE tx o.n key (lookKv U key))) P' (n+(if o.again key then b1.recs else b2.recs).length) (K1+1) U' (if o.again key then es else withE es (getE tx o.n key (lookKv U key))):=by
 have htx:=h.tx hp;have hval:((lookKv U key).getD []).length<=24:=by
  cases hl:lookKv U key with
  |none=>exact Nat.zero_le _
  |some v=>
   obtain ⟨e,he,_,rfl⟩:=lookKv_in hl;exact (h.ub e he).2
 have hok:(getE tx o.n key (lookKv U key)).Ok:=by
  refine ⟨⟨htx.1,htx.2,by show (0:Int)<=(o.n:Nat);omega,by show ((o.n:Nat):Int)<12;omega⟩,hk,hval, ?_⟩;cases hl:lookKv U key with
  |none=>exact .inr rfl
  |some v=>exact .inl rfl
 have e0:(newBt P).recs.length=0:=rfl;have hl1:=Runs.len hr1;have hn1:=h.n1;have ha1:AllOk b1:=hr1.ok h.all;refine ⟨hok,hval,⟨hl1.2,by omega⟩, ?_⟩;cases hag:o.again key
 ·have h2:lookO o.old key=none:=by
   unfold Opn.again at hag;cases hl:lookO o.old key with
   |none=>rfl
   |some z=>rw [hl] at hag;simp at hag
  have hrk:rightK (keyL tx (o.n:Nat))=true:=by simp [rightK,keyL_len]
  obtain ⟨b2,h3,h4⟩:=hb1.put hK1 hrk (by have:=enc_len hok;omega:(getE tx o.n key (lookKv U key)).enc.length<=64);have hr2:Runs (newBt P) b2 (c1+601):=hr1.trans (put_runs ha1 h3) (Nat.le_refl _);have hl2:=Runs.len hr2;have h5:HoldsA B b2 (K1+1) (kvOf U' (withE es (getE tx o.n key (lookKv U key)))):=by have e:=kv_note (U:=U') (es:=es) hok h.eok;rw [<-e];exact h4
  obtain ⟨h6,P',h7,h8⟩:=laid_holdsA h.ph.1 hn1 hr2 (by omega) h5;refine ⟨b2,fun _=>⟨h3,hl2.2,by omega⟩,P',h7,h6, ?_⟩;have:=h.wrote hp hn hk hoth (by omega:n<=n+(b2.recs.length:Nat)) us' ub' (P':=P') (K':=K1+1) (by rw [hag];exact h8);rw [hag] at this;exact this
 obtain ⟨h6,P',h7,h8⟩:=laid_holdsA h.ph.1 hn1 hr1 (by omega) (hb1.mono (Nat.le_succ _));refine ⟨b1,fun q=>Bool.noConfusion q,P',h7,by simp only [if_true];omega, ?_⟩;have:=h.wrote hp hn hk hoth (by omega:n<=n+(b1.recs.length:Nat)) us' ub' (P':=P') (K':=K1+1) (by rw [hag];exact h8);rw [hag] at this;exact this
theorem ub_ins {U:Ens} {key v:Bs} (h: ∀e∈U,(1<=e.1.length/\e.1.length<=20)/\e.2.length<=24) (hk:1<=key.length/\key.length<=20) (hv:v.length<=24): ∀e∈insKv U key v,(1<=e.1.length/\e.1.length<=20)/\e.2.length<=24:=fun e he=>by
 rcases insKv_mem U he with q|q
 ·rw [q];exact ⟨hk,hv⟩
 exact h e q
theorem sorted_del {U:Ens} (key:Bs) (h:Sorted U):Sorted (delKv U key):=List.Pairwise.sublist List.filter_sublist h
theorem ub_del {U:Ens} {key:Bs} (h: ∀e∈U,(1<=e.1.length/\e.1.length<=20)/\e.2.length<=24): ∀e∈delKv U key,(1<=e.1.length/\e.1.length<=20)/\e.2.length<=24:=fun e he=>h e (List.mem_filter.1 he).1
theorem rightK_usr {key:Bs} (hk:key.length<=20):rightK (107::key)=true:=by simp [rightK];omega
theorem TxI.get {d:Db} {P:Pl} {n:Int} {K:Nat} {U:Ens} {es:List Ent} (h:TxI B d P n K U es) {key:Bs} (hk:key.length<=20):(newBt P).get (107::key)= .ok (lookKv U key):=by rw [h.holds.get (rightK_usr hk),kv_look]
theorem TxI.put {d:Db} {P:Pl} {n:Int} {K:Nat} {U:Ens} {es:List Ent} (h:TxI B d P n K U es) {key v:Bs} (hk:1<=key.length/\key.length<=20) (hv:v.length<=24) (hK:K<=735) :
  ∃b1,(newBt P).put (107::key) v= .ok b1/\Runs (newBt P) b1 601/\HoldsA B b1 (K+1) (kvOf (insKv U key v) es):=by
 obtain ⟨b1,h1,h2⟩:=h.holds.put hK (rightK_usr hk.2) (by omega:v.length<=64);rw [kv_ins] at h2;exact ⟨b1,h1,put_runs h.all h1,h2⟩
variable {B:Nat}
def ForgetC (f:Int->Option Pg):Bt->List Ent->Bt->Prop
 |b, [],b'=>b'=b
 |b,e::l,b'=>(b.pool=f/\b.recs.length<=1000000)/\ ∃r b1,b.delete (keyL e.tx e.n)= .ok (r,b1)/\ForgetC f b1 l b'
def BackC (f:Int->Option Pg):Bt->List Ent->Bt->Prop
 |b, [],b'=>b'=b
 |b,e::l,b'=>(b.pool=f/\b.recs.length<=1000000)/\ ∃b1,(e.had=true->b.put (107::e.key) e.value= .ok b1)/\(e.had=false-> ∃r,b.delete (107::e.key)= .ok (r,b1))/\BackC f b1 l b'
theorem forgetC_at {f:Int->Option Pg} {b b':Bt} {l:List Ent} {i:Nat} {e:Ent} (hx:l[i]? =some e) (h:ForgetC f b (l.drop i) b'):(b.pool=f/\b.recs.length<=1000000)/\ ∃r b1,b.delete (keyL e.tx e.n)= .ok (r,b1)/\ForgetC f b1 (l.drop (i+1)) b':=by obtain ⟨h1,h2⟩:=List.getElem?_eq_some_iff.1 hx;rw [List.drop_eq_getElem_cons h1,h2] at h;exact h
theorem backC_at {f:Int->Option Pg} {b b':Bt} {l:List Ent} {i:Nat} {e:Ent} (hx:l[i]? =some e) (h:BackC f b (l.drop i) b'):(b.pool=f/\b.recs.length<=1000000)/\ ∃b1,(e.had=true->b.put (107::e.key) e.value= .ok b1)/\(e.had=false-> ∃r,b.delete (107::e.key)= .ok (r,b1))/\BackC f b1 (l.drop (i+1)) b':=by obtain ⟨h1,h2⟩:=List.getElem?_eq_some_iff.1 hx;rw [List.drop_eq_getElem_cons h1,h2] at h;exact h
def undoU (U:Ens) (e:Ent):Ens:=if e.had then insKv U e.key e.value else delKv U e.key
def backU:Ens->List Ent->Ens
 |U, []=>U
 |U,e::l=>backU (undoU U e) l
def lessE (es l:List Ent):List Ent:=es.filter fun a=>l.all fun e=>decide (¬(a.tx=e.tx/\a.n=e.n))
theorem forget_runs {P:Pl}: ∀(l:List Ent) {b:Bt} {K c:Nat} {U:Ens} {es:List Ent},HoldsA B b K (kvOf U es)->K+6<=3*B->Runs (newBt P) b c->c+27*l.length<=1000000->AllOk (newBt P)->(∀a∈es,a.Ok)->(∀e∈l,e.Ok)->
  ∃b',ForgetC P.f b l b'/\Runs (newBt P) b' (c+27*l.length)/\HoldsA B b' K (kvOf U (lessE es l))
 | [],b,K,c,U,es,h,_,hr,_,_,_,_=>⟨b,rfl,hr,by
  have e:lessE es []=es:=by simp [lessE]
  rw [e];exact h⟩
 |e::l,b,K,c,U,es,h,hK,hr,hc,ha,he,hl=>by
  have hrk:rightK (keyL e.tx e.n)=true:=by simp [rightK,keyL_len]
  simp only [List.length_cons] at hc;obtain ⟨b1,h1,h2,h3⟩:=h.delete (hr.ok ha) hrk hK;rw [kv_forget (hl e (by simp)).1 he] at h3;obtain ⟨b',h4,h5,h6⟩:=forget_runs l h3 hK (hr.trans h2 (Nat.le_refl _)) (by omega) ha (fun a q=>he a (List.mem_filter.1 q).1) (fun a q=>hl a (by simp [q]));have e0:(newBt P).recs.length=0:=rfl;have hln:=Runs.len hr;refine ⟨b',⟨⟨hln.2,by omega⟩,_,b1,h1,h4⟩,h5.mono (by simp only [List.length_cons];omega), ?_⟩;have e2:lessE (es.filter fun a=>decide (¬(a.tx=e.tx/\a.n=e.n))) l=lessE es (e::l):=by simp only [lessE,List.filter_filter,List.all_cons];apply List.filter_congr;intro a _;exact Bool.and_comm _ _
  rw [<-e2];exact h6
theorem undoU_ok {U:Ens} {e:Ent} (he:e.Ok) (us:Sorted U) (ub: ∀e∈U,(1<=e.1.length/\e.1.length<=20)/\e.2.length<=24):Sorted (undoU U e)/\ ∀x∈undoU U e,(1<=x.1.length/\x.1.length<=20)/\x.2.length<=24:=by
 unfold undoU;split
 ·exact ⟨insKv_sorted _ us,ub_ins ub he.2.1 he.2.2.1⟩
 exact ⟨sorted_del _ us,ub_del ub⟩
theorem backU_ok: ∀(l:List Ent) {U:Ens},(∀e∈l,e.Ok)->Sorted U->(∀e∈U,(1<=e.1.length/\e.1.length<=20)/\e.2.length<=24)->Sorted (backU U l)/\ ∀x∈backU U l,(1<=x.1.length/\x.1.length<=20)/\x.2.length<=24
 | [],U,_,us,ub=>⟨us,ub⟩
 |e::l,U,hl,us,ub=>by
  obtain ⟨h1,h2⟩:=undoU_ok (hl e (by simp)) us ub;exact backU_ok l (fun a q=>hl a (by simp [q])) h1 h2
theorem back_runs {P:Pl}: ∀(l:List Ent) {b:Bt} {K c:Nat} {U:Ens} {es:List Ent},HoldsA B b K (kvOf U es)->K+l.length<=735->K+l.length+6<=3*B->Runs (newBt P) b c->c+601*l.length<=1000000->AllOk (newBt P)->(∀e∈l,e.Ok)->
  ∃b',BackC P.f b l b'/\Runs (newBt P) b' (c+601*l.length)/\HoldsA B b' (K+l.length) (kvOf (backU U l) es)
 | [],b,K,c,U,es,h,_,_,hr,_,_,_=>⟨b,rfl,hr,h⟩
 |e::l,b,K,c,U,es,h,hK,hB,hr,hc,ha,hl=>by
  have hok:=hl e (by simp);simp only [List.length_cons] at hK hB hc;have hstep: ∃b1,(e.had=true->b.put (107::e.key) e.value= .ok b1)/\(e.had=false-> ∃r,b.delete (107::e.key)= .ok (r,b1))/\Runs b b1 601/\HoldsA B b1 (K+1) (kvOf (undoU U e) es):=by
   unfold undoU;cases hh:e.had
   ·obtain ⟨b1,h1,h2,h3⟩:=h.delete (hr.ok ha) (rightK_usr hok.2.1.2) (by omega);rw [kv_del] at h3;exact ⟨b1,fun q=>Bool.noConfusion q,fun _=>⟨_,h1⟩,h2.mono (by omega),by simp only [Bool.false_eq_true,if_false];exact h3.mono (Nat.le_succ _)⟩
   obtain ⟨b1,h1,h2⟩:=h.put (val:=e.value) (by omega) (rightK_usr hok.2.1.2) (by have:=hok.2.2.1;omega);rw [kv_ins] at h2;exact ⟨b1,fun _=>h1,fun q=>Bool.noConfusion q,put_runs (hr.ok ha) h1,by simp only [if_true];exact h2⟩
  obtain ⟨b1,h1,h1',h2,h3⟩:=hstep;obtain ⟨b',h4,h5,h6⟩:=back_runs l h3 (by omega) (by omega) (hr.trans h2 (Nat.le_refl _)) (by omega) ha (fun a q=>hl a (by simp [q]));have e0:(newBt P).recs.length=0:=rfl;have hln:=Runs.len hr;refine ⟨b',⟨⟨hln.2,by omega⟩,b1,h1,h1',h4⟩,h5.mono (by simp only [List.length_cons];omega), ?_⟩;have e1:K+(e::l).length=K+1+l.length:=by simp only [List.length_cons];omega
  rw [e1];exact h6
def Db.done (d:Db) (tx:Int):Db:={d with l:=d.l.filter fun p=>decide (p.1≠tx)}
theorem done_mem {d:Db} {tx:Int} {p:Int×Opn}:p∈(d.done tx).l↔p∈d.l/\p.1≠tx:=by show p∈d.l.filter _↔_;rw [List.mem_filter];simp
theorem TxI.ended {d:Db} {P P':Pl} {n n':Int} {K K':Nat} {U U':Ens} {es:List Ent} (h:TxI B d P n K U es) {tx:Int} {o:Opn} (hp:(tx,o)∈d.l) (hn':n<=n') (us':Sorted U') (ub': ∀e∈U',(1<=e.1.length/\e.1.length<=20)/\e.2.length<=24)
  (ph':PHoldsA B P' n' K' (kvOf U' (lessE es o.old))):TxI B (d.done tx) P' n' K' U' (lessE es o.old):=by
 have hmem: ∀x,x∈lessE es o.old↔x∈es/\x.tx≠tx:=fun x=>by
  unfold lessE;rw [List.mem_filter];constructor
  ·rintro ⟨h1,h2⟩;refine ⟨h1,fun q=> ?_⟩;obtain ⟨p,hp',hx⟩:=(h.mem x).1 h1;have h3:=h.own p hp' x hx;have h4:=h.uniq hp' hp (by rw [<-h3.1,q]);subst h4;rw [List.all_eq_true] at h2;have:=h2 x hx;simp at this
  rintro ⟨h1,h2⟩;refine ⟨h1, ?_⟩;rw [List.all_eq_true];intro e he;have:=h.own (tx,o) hp e he;simp only [decide_eq_true_eq];rintro ⟨q,_⟩;exact h2 (by rw [q];exact this.1)
 refine ⟨⟨h.ok.e0,h.ok.e1,h.ok.b0,h.ok.b1,h.ok.s0,h.ok.s1,fun q hq=>h.ok.ids q (done_mem.1 hq).1, ?_⟩,ph',by have:=h.n1;omega,us',ub',fun a ha=>h.eok a ((hmem a).1 ha).1,List.Pairwise.sublist List.filter_sublist h.srt,fun x=> ?_,List.Pairwise.sublist List.filter_sublist h.ids,
  fun q hq=>h.own q (done_mem.1 hq).1,fun q hq=>h.old q (done_mem.1 hq).1,fun q hq=>h.n12 q (done_mem.1 hq).1,fun q hq r hr=>h.exc q (done_mem.1 hq).1 r (done_mem.1 hr).1⟩
 ·have:=h.ok.len;have h2:(d.done tx).l.length<=d.l.length:=List.length_filter_le _ _;omega
 rw [hmem,h.mem];constructor
 ·rintro ⟨⟨p,hp',hx⟩,h2⟩;refine ⟨p,done_mem.2 ⟨hp',fun q=>h2 ?_⟩,hx⟩;rw [(h.own p hp' x hx).1,q]
 rintro ⟨p,hp',hx⟩;obtain ⟨h1,h2⟩:=done_mem.1 hp';exact ⟨⟨p,h1,hx⟩,by rw [(h.own p h1 x hx).1];exact h2⟩
theorem TxI.old_ok {d:Db} {P:Pl} {n:Int} {K:Nat} {U:Ens} {es:List Ent} (h:TxI B d P n K U es) {tx:Int} {o:Opn} (hp:(tx,o)∈d.l): ∀e∈o.old,e.Ok:=fun e he=>h.eok e ((h.mem e).2 ⟨_,hp,he⟩)
theorem nums_len: ∀(l:List Ent) {a:Int} {m:Nat},l.Pairwise (fun a b=>a.n<b.n/\a.key≠b.key)->(∀e∈l,a<=e.n/\e.n<a+m)->l.length<=m
 | [],_,_,_,_=>Nat.zero_le _
 |e::l,a,m,h,hb=>by
  have h':=List.pairwise_cons.1 h;have h1:=hb e (by simp);have ih:=nums_len l (a:=e.n+1) (m:=(a+m - (e.n+1)).toNat) h'.2 (fun x hx=>by
   have:=h'.1 x hx;have:=hb x (by simp [hx]);omega)
  simp only [List.length_cons];omega
theorem TxI.old_len {d:Db} {P:Pl} {n:Int} {K:Nat} {U:Ens} {es:List Ent} (h:TxI B d P n K U es) {tx:Int} {o:Opn} (hp:(tx,o)∈d.l):o.old.length<=o.n/\o.old.length<=12:=by
 have h1:=nums_len o.old (a:=0) (m:=o.n) (h.old _ hp) (fun e he=>by
  have h5:e.tx=tx/\e.n<(o.n:Nat):=h.own (tx,o) hp e he;have:=(h.old_ok hp e he).1.2.2.1;omega)
 have h6:o.n<=12:=h.n12 (tx,o) hp;exact ⟨h1,by omega⟩
theorem TxI.commit {d:Db} {P:Pl} {n:Int} {K:Nat} {U:Ens} {es:List Ent} (h:TxI B d P n K U es) {tx:Int} {o:Opn} (hp:(tx,o)∈d.l) (hK:K+6<=3*B) (hn9:n<=1000000000) :
  ∃b1,ForgetC P.f (newBt P) o.old b1/\b1.pool=P.f/\b1.recs.length<=324/\ ∃P',LaidTo P n b1.recs P'/\TxI B (d.done tx) P' (n+b1.recs.length) K U (lessE es o.old):=by
 have hl:=(h.old_len hp).2;obtain ⟨b1,h1,h2,h3⟩:=forget_runs o.old h.holds hK (Runs.refl _ 0) (by omega) h.all h.eok (h.old_ok hp);have e0:(newBt P).recs.length=0:=rfl;have hl1:=Runs.len h2;have hn1:=h.n1;obtain ⟨h6,P',h7,h8⟩:=laid_holdsA h.ph.1 hn1 h2 (by omega) h3;exact ⟨b1,h1,hl1.2,by omega,P',h7,h.ended hp (by omega) h.us h.ub h8⟩
theorem TxI.abort {d:Db} {P:Pl} {n:Int} {K:Nat} {U:Ens} {es:List Ent} (h:TxI B d P n K U es) {tx:Int} {o:Opn} (hp:(tx,o)∈d.l) (hK7:K+o.old.length<=735) (hK:K+o.old.length+6<=3*B) (hn9:n<=1000000000) :
  ∃b0 b1,BackC P.f (newBt P) o.old.reverse b0/\(b0.pool=P.f/\b0.recs.length<=7212)/\ForgetC P.f b0 o.old b1/\b1.pool=P.f/\b1.recs.length<=7536/\ ∃P',LaidTo P n b1.recs P'/\TxI B (d.done tx) P' (n+b1.recs.length) (K+o.old.length) (backU U o.old.reverse) (lessE es o.old):=by
 have hl:=(h.old_len hp).2;have hlr:o.old.reverse.length=o.old.length:=by simp
 have hokr: ∀e∈o.old.reverse,e.Ok:=fun e he=>h.old_ok hp e (by simpa using he);obtain ⟨b0,g1,g2,g3⟩:=back_runs o.old.reverse h.holds (by omega) (by omega) (Runs.refl _ 0) (by omega) h.all hokr;rw [hlr] at g3;obtain ⟨b1,h1,h2,h3⟩:=forget_runs o.old g3 hK g2 (by omega) h.all h.eok (h.old_ok hp);have e0:(newBt P).recs.length=0:=rfl;have gl1:=Runs.len g2;have hl1:=Runs.len h2;have hn1:=h.n1;obtain ⟨h6,P',h7,h8⟩:=laid_holdsA h.ph.1 hn1 h2 (by omega) h3;obtain ⟨u1,u2⟩:=backU_ok o.old.reverse hokr h.us h.ub;exact ⟨b0,b1,g1,⟨gl1.2,by omega⟩,h1,hl1.2,by omega,P',h7,h.ended hp (by omega) u1 u2 h8⟩
open Go Go.Proofs
theorem c_cutG {X:Type} {P:Program} {Q:Exit->Act->World->Prop} {N:Nat} {env:Env} {a:Act} {w0 w:World} {D:Sto} {ss:List Seg} {x y:Code} (slots:List Nat) (en:X->Env) (F:X->Prop) (Dn:X->Sto) (nw:X->List Seg) (Z:EnvOk N env a) (I:Inv w0 D ss w)
    (h:x.wp P (Exit.then (fun a' w'=> ∃z,EnvOk N (en z++pick env slots) a'/\F z/\Inv w0 (Dn z) (nw z++ss) w') Q) a w)
    (k: ∀z a' w',EnvOk N (en z++pick env slots) a'->F z->Inv w0 (Dn z) (nw z++ss) w'->y.wp P Q a' w'):(Code.seq x y).wp P Q a w:=
  wp_seq (wp_mono h fun e a' w' q=>by
    cases e<;>first|exact q|(obtain ⟨b,hE',hF,hI'⟩:=q;exact k b a' w' hE' hF hI'))
end Go.Proofs.YtkknmpkcfpdllaaGreatDoor.B
