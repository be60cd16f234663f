/- What functions of the program compute, each function once: steps over the model, and the plain law of it. -/
import Derived.Test.YtkknmpkcfpdllaaGreatDoorSCut
namespace Go.Proofs.YtkknmpkcfpdllaaGreatDoor.B
open Go
set_option linter.unusedVariables false
set_option linter.unusedSimpArgs false
set_option linter.unnecessarySimpa false
variable {B:Nat}
def ForgetC (f:Int→Option Pg):Bt→List Ent→Bt→Prop
 |b, [],b'=>b'=b
 |b,e::l,b'=>(b.pool=f∧b.recs.length≤1000000)∧ ∃r b1,b.delete (keyL e.tx e.n)= .ok (r,b1)∧ForgetC f b1 l b'
def BackC (f:Int→Option Pg):Bt→List Ent→Bt→Prop
 |b, [],b'=>b'=b
 |b,e::l,b'=>(b.pool=f∧b.recs.length≤1000000)∧ ∃b1,(e.had=true→b.put (107::e.key) e.value= .ok b1)∧(e.had=false→ ∃r,b.delete (107::e.key)= .ok (r,b1))∧BackC f b1 l b'
theorem forgetC_at {f:Int→Option Pg} {b b':Bt} {l:List Ent} {i:Nat} {e:Ent} (hx:l[i]? =some e) (h:ForgetC f b (l.drop i) b'):(b.pool=f∧b.recs.length≤1000000)∧ ∃r b1,b.delete (keyL e.tx e.n)= .ok (r,b1)∧ForgetC f b1 (l.drop (i+1)) b':=by obtain ⟨h1,h2⟩:=List.getElem?_eq_some_iff.1 hx;rw [List.drop_eq_getElem_cons h1,h2] at h;exact h
theorem backC_at {f:Int→Option Pg} {b b':Bt} {l:List Ent} {i:Nat} {e:Ent} (hx:l[i]? =some e) (h:BackC f b (l.drop i) b'):(b.pool=f∧b.recs.length≤1000000)∧ ∃b1,(e.had=true→b.put (107::e.key) e.value= .ok b1)∧(e.had=false→ ∃r,b.delete (107::e.key)= .ok (r,b1))∧BackC f b1 (l.drop (i+1)) b':=by obtain ⟨h1,h2⟩:=List.getElem?_eq_some_iff.1 hx;rw [List.drop_eq_getElem_cons h1,h2] at h;exact h
def undoU (U:Ens) (e:Ent):Ens:=if e.had then insKv U e.key e.value else delKv U e.key
def backU:Ens→List Ent→Ens
 |U, []=>U
 |U,e::l=>backU (undoU U e) l
def lessE (es l:List Ent):List Ent:=es.filter fun a=>l.all fun e=>decide (¬(a.tx=e.tx∧a.n=e.n))
theorem forget_runs {P:Pl}: ∀(l:List Ent) {b:Bt} {K c:Nat} {U:Ens} {es:List Ent},HoldsA B b K (kvOf U es)→K+6≤3*B→Runs (newBt P) b c→c+27*l.length≤1000000→AllOk (newBt P)→(∀a∈es,a.Ok)→(∀e∈l,e.Ok)→
  ∃b',ForgetC P.f b l b'∧Runs (newBt P) b' (c+27*l.length)∧HoldsA B b' K (kvOf U (lessE es l))
 | [],b,K,c,U,es,h,_,hr,_,_,_,_=>⟨b,rfl,hr,by
  have e:lessE es []=es:=by simp [lessE]
  rw [e];exact h⟩
 |e::l,b,K,c,U,es,h,hK,hr,hc,ha,he,hl=>by
  have hrk:rightK (keyL e.tx e.n)=true:=by simp [rightK,keyL_len]
  simp only [List.length_cons] at hc;obtain ⟨b1,h1,h2,h3⟩:=h.delete (hr.ok ha) hrk hK;rw [kv_forget (hl e (by simp)).1 he] at h3;obtain ⟨b',h4,h5,h6⟩:=forget_runs l h3 hK (hr.trans h2 (Nat.le_refl _)) (by omega) ha (fun a q=>he a (List.mem_filter.1 q).1) (fun a q=>hl a (by simp [q]));have e0:(newBt P).recs.length=0:=rfl;have hln:=Runs.len hr;refine ⟨b',⟨⟨hln.2,by omega⟩,_,b1,h1,h4⟩,h5.mono (by simp only [List.length_cons];omega), ?_⟩;have e2:lessE (es.filter fun a=>decide (¬(a.tx=e.tx∧a.n=e.n))) l=lessE es (e::l):=by simp only [lessE,List.filter_filter,List.all_cons];apply List.filter_congr;intro a _;exact Bool.and_comm _ _
  rw [←e2];exact h6
theorem undoU_ok {U:Ens} {e:Ent} (he:e.Ok) (us:Sorted U) (ub: ∀e∈U,(1≤e.1.length∧e.1.length≤20)∧e.2.length≤24):Sorted (undoU U e)∧ ∀x∈undoU U e,(1≤x.1.length∧x.1.length≤20)∧x.2.length≤24:=by
 unfold undoU;split
 ·exact ⟨insKv_sorted _ us,ub_ins ub he.2.1 he.2.2.1⟩
 exact ⟨sorted_del _ us,ub_del ub⟩
theorem backU_ok: ∀(l:List Ent) {U:Ens},(∀e∈l,e.Ok)→Sorted U→(∀e∈U,(1≤e.1.length∧e.1.length≤20)∧e.2.length≤24)→Sorted (backU U l)∧ ∀x∈backU U l,(1≤x.1.length∧x.1.length≤20)∧x.2.length≤24
 | [],U,_,us,ub=>⟨us,ub⟩
 |e::l,U,hl,us,ub=>by
  obtain ⟨h1,h2⟩:=undoU_ok (hl e (by simp)) us ub;exact backU_ok l (fun a q=>hl a (by simp [q])) h1 h2
theorem back_runs {P:Pl}: ∀(l:List Ent) {b:Bt} {K c:Nat} {U:Ens} {es:List Ent},HoldsA B b K (kvOf U es)→K+l.length≤735→K+l.length+6≤3*B→Runs (newBt P) b c→c+601*l.length≤1000000→AllOk (newBt P)→(∀e∈l,e.Ok)→
  ∃b',BackC P.f b l b'∧Runs (newBt P) b' (c+601*l.length)∧HoldsA B b' (K+l.length) (kvOf (backU U l) es)
 | [],b,K,c,U,es,h,_,_,hr,_,_,_=>⟨b,rfl,hr,h⟩
 |e::l,b,K,c,U,es,h,hK,hB,hr,hc,ha,hl=>by
  have hok:=hl e (by simp);simp only [List.length_cons] at hK hB hc;have hstep: ∃b1,(e.had=true→b.put (107::e.key) e.value= .ok b1)∧(e.had=false→ ∃r,b.delete (107::e.key)= .ok (r,b1))∧Runs b b1 601∧HoldsA B b1 (K+1) (kvOf (undoU U e) es):=by
   unfold undoU;cases hh:e.had
   ·obtain ⟨b1,h1,h2,h3⟩:=h.delete (hr.ok ha) (rightK_usr hok.2.1.2) (by omega);rw [kv_del] at h3;exact ⟨b1,fun q=>Bool.noConfusion q,fun _=>⟨_,h1⟩,h2.mono (by omega),by simp only [Bool.false_eq_true,if_false];exact h3.mono (Nat.le_succ _)⟩
   obtain ⟨b1,h1,h2⟩:=h.put (val:=e.value) (by omega) (rightK_usr hok.2.1.2) (by have:=hok.2.2.1;omega);rw [kv_ins] at h2;exact ⟨b1,fun _=>h1,fun q=>Bool.noConfusion q,put_runs (hr.ok ha) h1,by simp only [if_true];exact h2⟩
  obtain ⟨b1,h1,h1',h2,h3⟩:=hstep;obtain ⟨b',h4,h5,h6⟩:=back_runs l h3 (by omega) (by omega) (hr.trans h2 (Nat.le_refl _)) (by omega) ha (fun a q=>hl a (by simp [q]));have e0:(newBt P).recs.length=0:=rfl;have hln:=Runs.len hr;refine ⟨b',⟨⟨hln.2,by omega⟩,b1,h1,h1',h4⟩,h5.mono (by simp only [List.length_cons];omega), ?_⟩;have e1:K+(e::l).length=K+1+l.length:=by simp only [List.length_cons];omega
  rw [e1];exact h6
def Db.done (d:Db) (tx:Int):Db:={d with l:=d.l.filter fun p=>decide (p.1≠tx)}
theorem done_mem {d:Db} {tx:Int} {p:Int×Opn}:p∈(d.done tx).l↔p∈d.l∧p.1≠tx:=by show p∈d.l.filter _↔_;rw [List.mem_filter];simp
theorem TxI.ended {d:Db} {P P':Pl} {n n':Int} {K K':Nat} {U U':Ens} {es:List Ent} (h:TxI B d P n K U es) {tx:Int} {o:Opn} (hp:(tx,o)∈d.l) (hn':n≤n') (us':Sorted U') (ub': ∀e∈U',(1≤e.1.length∧e.1.length≤20)∧e.2.length≤24)
  (ph':PHoldsA B P' n' K' (kvOf U' (lessE es o.old))):TxI B (d.done tx) P' n' K' U' (lessE es o.old):=by
 have hmem: ∀x,x∈lessE es o.old↔x∈es∧x.tx≠tx:=fun x=>by
  unfold lessE;rw [List.mem_filter];constructor
  ·rintro ⟨h1,h2⟩;refine ⟨h1,fun q=> ?_⟩;obtain ⟨p,hp',hx⟩:=(h.mem x).1 h1;have h3:=h.own p hp' x hx;have h4:=h.uniq hp' hp (by rw [←h3.1,q]);subst h4;rw [List.all_eq_true] at h2;have:=h2 x hx;simp at this
  rintro ⟨h1,h2⟩;refine ⟨h1, ?_⟩;rw [List.all_eq_true];intro e he;have:=h.own (tx,o) hp e he;simp only [decide_eq_true_eq];rintro ⟨q,_⟩;exact h2 (by rw [q];exact this.1)
 refine ⟨⟨h.ok.e0,h.ok.e1,h.ok.b0,h.ok.b1,h.ok.s0,h.ok.s1,fun q hq=>h.ok.ids q (done_mem.1 hq).1, ?_⟩,ph',by have:=h.n1;omega,us',ub',fun a ha=>h.eok a ((hmem a).1 ha).1,List.Pairwise.sublist List.filter_sublist h.srt,fun x=> ?_,List.Pairwise.sublist List.filter_sublist h.ids,
  fun q hq=>h.own q (done_mem.1 hq).1,fun q hq=>h.old q (done_mem.1 hq).1,fun q hq=>h.n12 q (done_mem.1 hq).1,fun q hq r hr=>h.exc q (done_mem.1 hq).1 r (done_mem.1 hr).1⟩
 ·have:=h.ok.len;have h2:(d.done tx).l.length≤d.l.length:=List.length_filter_le _ _;omega
 rw [hmem,h.mem];constructor
 ·rintro ⟨⟨p,hp',hx⟩,h2⟩;refine ⟨p,done_mem.2 ⟨hp',fun q=>h2 ?_⟩,hx⟩;rw [(h.own p hp' x hx).1,q]
 rintro ⟨p,hp',hx⟩;obtain ⟨h1,h2⟩:=done_mem.1 hp';exact ⟨⟨p,h1,hx⟩,by rw [(h.own p h1 x hx).1];exact h2⟩
theorem TxI.old_ok {d:Db} {P:Pl} {n:Int} {K:Nat} {U:Ens} {es:List Ent} (h:TxI B d P n K U es) {tx:Int} {o:Opn} (hp:(tx,o)∈d.l): ∀e∈o.old,e.Ok:=fun e he=>h.eok e ((h.mem e).2 ⟨_,hp,he⟩)
theorem nums_len: ∀(l:List Ent) {a:Int} {m:Nat},l.Pairwise (fun a b=>a.n<b.n∧a.key≠b.key)→(∀e∈l,a≤e.n∧e.n<a+m)→l.length≤m
 | [],_,_,_,_=>Nat.zero_le _
 |e::l,a,m,h,hb=>by
  have h':=List.pairwise_cons.1 h;have h1:=hb e (by simp);have ih:=nums_len l (a:=e.n+1) (m:=(a+m - (e.n+1)).toNat) h'.2 (fun x hx=>by
   have:=h'.1 x hx;have:=hb x (by simp [hx]);omega)
  simp only [List.length_cons];omega
theorem TxI.old_len {d:Db} {P:Pl} {n:Int} {K:Nat} {U:Ens} {es:List Ent} (h:TxI B d P n K U es) {tx:Int} {o:Opn} (hp:(tx,o)∈d.l):o.old.length≤o.n∧o.old.length≤12:=by
 have h1:=nums_len o.old (a:=0) (m:=o.n) (h.old _ hp) (fun e he=>by
  have h5:e.tx=tx∧e.n<(o.n:Nat):=h.own (tx,o) hp e he;have:=(h.old_ok hp e he).1.2.2.1;omega)
 have h6:o.n≤12:=h.n12 (tx,o) hp;exact ⟨h1,by omega⟩
theorem TxI.commit {d:Db} {P:Pl} {n:Int} {K:Nat} {U:Ens} {es:List Ent} (h:TxI B d P n K U es) {tx:Int} {o:Opn} (hp:(tx,o)∈d.l) (hK:K+6≤3*B) (hn9:n≤1000000000) :
  ∃b1,ForgetC P.f (newBt P) o.old b1∧b1.pool=P.f∧b1.recs.length≤324∧ ∃P',LaidTo P n b1.recs P'∧TxI B (d.done tx) P' (n+b1.recs.length) K U (lessE es o.old):=by
 have hl:=(h.old_len hp).2;obtain ⟨b1,h1,h2,h3⟩:=forget_runs o.old h.holds hK (Runs.refl _ 0) (by omega) h.all h.eok (h.old_ok hp);have e0:(newBt P).recs.length=0:=rfl;have hl1:=Runs.len h2;have hn1:=h.n1;obtain ⟨h6,P',h7,h8⟩:=laid_holdsA h.ph.1 hn1 h2 (by omega) h3;exact ⟨b1,h1,hl1.2,by omega,P',h7,h.ended hp (by omega) h.us h.ub h8⟩
theorem TxI.abort {d:Db} {P:Pl} {n:Int} {K:Nat} {U:Ens} {es:List Ent} (h:TxI B d P n K U es) {tx:Int} {o:Opn} (hp:(tx,o)∈d.l) (hK7:K+o.old.length≤735) (hK:K+o.old.length+6≤3*B) (hn9:n≤1000000000) :
  ∃b0 b1,BackC P.f (newBt P) o.old.reverse b0∧(b0.pool=P.f∧b0.recs.length≤7212)∧ForgetC P.f b0 o.old b1∧b1.pool=P.f∧b1.recs.length≤7536∧ ∃P',LaidTo P n b1.recs P'∧TxI B (d.done tx) P' (n+b1.recs.length) (K+o.old.length) (backU U o.old.reverse) (lessE es o.old):=by
 have hl:=(h.old_len hp).2;have hlr:o.old.reverse.length=o.old.length:=by simp
 have hokr: ∀e∈o.old.reverse,e.Ok:=fun e he=>h.old_ok hp e (by simpa using he);obtain ⟨b0,g1,g2,g3⟩:=back_runs o.old.reverse h.holds (by omega) (by omega) (Runs.refl _ 0) (by omega) h.all hokr;rw [hlr] at g3;obtain ⟨b1,h1,h2,h3⟩:=forget_runs o.old g3 hK g2 (by omega) h.all h.eok (h.old_ok hp);have e0:(newBt P).recs.length=0:=rfl;have gl1:=Runs.len g2;have hl1:=Runs.len h2;have hn1:=h.n1;obtain ⟨h6,P',h7,h8⟩:=laid_holdsA h.ph.1 hn1 h2 (by omega) h3;obtain ⟨u1,u2⟩:=backU_ok o.old.reverse hokr h.us h.ub;exact ⟨b0,b1,g1,⟨gl1.2,by omega⟩,h1,hl1.2,by omega,P',h7,h.ended hp (by omega) u1 u2 h8⟩
end Go.Proofs.YtkknmpkcfpdllaaGreatDoor.B
