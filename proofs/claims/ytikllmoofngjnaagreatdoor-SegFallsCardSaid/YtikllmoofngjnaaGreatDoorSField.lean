/- A program logic over the model: what is owned, what is written no more, and one lemma for each kind of step. -/
import Derived.Test.YtikllmoofngjnaaGreatDoorTFallP
import Derived.Test.YtikllmoofngjnaaGreatDoorSLogB
namespace Go.Proofs.YtikllmoofngjnaaGreatDoor.B
open Go Go.Proofs
set_option linter.unusedVariables false
set_option linter.unusedSimpArgs false
def OutOk (p:Int) (j:Nat) (outs:List Ms):Prop:=outs.length<=1/\ ∀m∈outs,(m.kind=8->m.epoch<=p)/\(m.kind=2->m.lsn<=(j:Int))
theorem sent_ok {x m:Ms} {id gr p:Int} {j:Nat} (h8:x.kind=8->x.epoch<=p) (h2:x.kind=2->x.lsn<=(j:Int)):OutOk p j (x.sent m id gr):=by
 unfold Ms.sent;split
 ·exact ⟨Nat.zero_le _,fun m hm=>by cases hm⟩
 exact ⟨Nat.le_refl 1,fun m hm=>by rw [List.mem_singleton.1 hm];exact ⟨h8,h2⟩⟩
def Fall (L:Lg) (t:Nat) (p:Int) (j:Nat):Prop:= ∃n P J C,FallI L n t P J C/\P n=p/\J n=j
def Came (ad:Nat->Addr) (d:Dk) (o:Option (Int×Bs)) (t:Nat) (p:Int) (j:Nat):Prop:= ∀keep cx,0<=cx->cx<=d.calls+1->
 ∃n Ls cs p' j',0<n/\Plays ad (d.back o keep cx) 0 n Ls cs/\p<=p'/\j<=j'/\Fall (Ls n) (t+1) p' j'
section
variable {L:Lg} {n t:Nat} {P:Nat->Int} {J:Nat->Nat} {C:Nat->Cl} {ad:Nat->Addr} {a e:Int}
theorem FallI.more (h:FallI L n t P J C):FallI L n (t+1) P J C:=⟨h.hist,h.dk.more,h.s,h.gr,h.spans,h.l,h.known,h.fin,h.calls,by have:=h.n1;omega⟩
theorem FallI.room (h:FallI L n t P J C) (ht:t<=100) (a:Int):(((L.armed a).end_:Nat):Int)<(L.armed a).d.blocks:=by have:=h.n1;show ((L.end_:Nat):Int)<L.d.blocks;rw [h.fin,h.dk.blocks];omega
theorem FallI.j (h:FallI L n t P J C):J n<=t:=by have:=(h.hist.le n h.hist.n1 (Nat.le_refl _)).1;have:=h.n1;omega
theorem FallI.came (h:FallI L n t P J C) (ht:t<=50) {c:Cl} (hc:(∃e,c=promC e/\P n<=e/\e<=8)\/c=recC (J n)) {o:Option (Int×Bs)} (ho:o=none\/o=some (((L.end_:Nat):Int),L.blk c)):Came ad L.d o t (P n) (J n):=fun keep cx h0 h1=>by
 have hp0:=(h.hist.le n h.hist.n1 (Nat.le_refl _)).2;have hn:=h.n1;have hn1:=h.hist.n1;have ho2:o=none\/o=some (((n:Nat):Int),blkC n c):=by have e1:L.blk c=blkC L.calls c:=rfl;rw [e1,h.fin,h.calls] at ho;exact ho
 rcases h.dk.back ho2 h0 h1 keep with hd|hd
 ·exact ⟨n,_,C,P n,J n,by omega,h.hist.plays hd (by omega) (by omega),Int.le_refl _,Nat.le_refl _,n,P,J,C,h.hist.ls_good hd (by omega),rfl,rfl⟩
 rcases hc with ⟨e,rfl,he,he8⟩|rfl
 ·have hh:=h.hist.prom (e:=e) (by omega) he8;exact ⟨n+1,_,_,e,J n,by omega,hh.plays hd (by omega) (by omega),he,Nat.le_refl _,n+1,_,_,_,hh.ls_good hd (by omega),updF_eq _ _ _,updF_eq _ _ _⟩
 have hh:=h.hist.recd;exact ⟨n+1,_,_,P n,J n+1,by omega,hh.plays hd (by omega) (by omega),Int.le_refl _,by omega,n+1,_,_,_,hh.ls_good hd (by omega),updF_eq _ _ _,updF_eq _ _ _⟩
theorem FallI.prepUp (h:FallI L n t P J C) (ht:t<=50) (ha:a=0\/3<=a) (ha1:a<=1000) (hp:P n<e) (he:e<=8) :
  AnsOk 1 0 (L.armed a) (mP e) {kind:=8,epoch:=e,inc:=L.s.inc,at_:=L.s.installed,spans:=L.s.spans,recs:=L.h.l,lsn:=L.s.floor} ((L.armed a).prom e):=fun I hL hm hst=>
 AnsPrepare_spec I hL (h.goodA (by omega) ha ha1) hm hst rfl (by have:=(h.hist.le n h.hist.n1 (Nat.le_refl _)).2;show 0<=e;omega) (by show e<=1073741824;omega) (by show L.s.promise<e;rw [h.s];exact hp) (h.room (by omega) a)
theorem FallI.prepNext (h:FallI L n t P J C) (hp:P n<e) (he:e<=8):Fall (((L.armed a).prom e).armed 0) (t+1) e (J n):=by
 have hp0:=(h.hist.le n h.hist.n1 (Nat.le_refl _)).2;refine ⟨n+1,_,_,_,⟨h.hist.prom (e:=e) (by omega) he, ?_, ?_,h.gr,h.spans, ?_,h.known, ?_, ?_,by have:=h.n1;omega⟩,updF_eq _ _ _,updF_eq _ _ _⟩
 ·have e1:(((L.armed a).prom e).armed 0).d={(({L.d with arm:=a}:Dk).wr ((L.end_:Nat):Int) (blkC L.calls (promC e))).sync with arm:=0}:=rfl;rw [e1,h.fin,h.calls];exact h.dk.lay a (promC e)
 ·show ({L.s with promise:=e}:Stt)=_;rw [h.s,updF_eq];rfl
 ·show L.h.l=_;rw [updF_eq];exact h.l
 ·show L.end_+1=_;rw [h.fin]
 show L.calls+1=_;rw [h.calls]
theorem FallI.prepX (h:FallI L n t P J C) (ht:t<=50) (hkk:a=1\/a=2) (hp:P n<e) (he:e<=8):AnsX ad 1 0 a L (mP e) (promC e):=fun I hL hS hm hst=>
 AnsPrepX_spec hkk I hL hS (h.good (by omega)) hm hst rfl (by have:=(h.hist.le n h.hist.n1 (Nat.le_refl _)).2;show 0<=e;omega) (by show e<=1073741824;omega) (by rw [h.s];exact hp) (h.room (by omega) a)
theorem FallI.prepAgain (h:FallI L n t P J C) (ht:t<=50) (he:e=P n) (he8:e<=8) :
  AnsOk 1 0 (L.armed a) (mP e) {kind:=8,epoch:=e,inc:=L.s.inc,at_:=L.s.installed,spans:=L.s.spans,recs:=L.h.l,lsn:=L.s.floor} (L.armed a):=fun I hL hm hst=>
 AnsPrepAgain_spec I hL ((h.good (by omega)).gd.armed a) hm hst rfl (by have:=(h.hist.le n h.hist.n1 (Nat.le_refl _)).2;show 0<=e;omega) (by show e<=1073741824;omega) (by show e=L.s.promise;rw [h.s];exact he)
theorem FallI.prepNo (h:FallI L n t P J C) (hp:e<P n):AnsOk 1 0 (L.armed a) (mP e) {kind:=3,epoch:=L.s.promise,inc:=L.s.inc} (L.armed a):=fun I hL hm hst=>
 AnsRefuseP_spec I hL hm hst rfl (by show e<L.s.promise;rw [h.s];exact hp)
theorem FallI.writeNo (h:FallI L n t P J C) (hp:0<P n):AnsOk 1 0 (L.armed a) (mW (J n)) {kind:=3,epoch:=L.s.promise,inc:=L.s.inc} (L.armed a):=fun I hL hm hst=>
 AnsRefuseW_spec I hL hm hst rfl (by show 0<L.s.promise;rw [h.s];exact hp)
theorem FallI.fits (h:FallI L n t P J C) (ht:t<=50):L.h.FitsAll [fF (J n)]/\L.h.news [fF (J n)]= [fF (J n)]/\L.h.addAll [fF (J n)]={L.h with l:=rowN fF (J n+1),known:=false}:=by
 have hj:=h.j;obtain ⟨a1,a2⟩:=addN fF_num h.spans h.l;refine ⟨⟨⟨fF_valid (by omega),by rw [h.gr];rfl,by rw [h.l,rowN_len];omega,by rw [h.l];exact rowN_rises fF_num _,fun x hx e=>by
  rw [h.l] at hx;obtain ⟨k,hk,rfl⟩:=rowN_mem.1 hx;rw [fF_num.lsn,fF_num.lsn] at e;omega⟩,trivial⟩,by rw [Ht.news,a1];rfl,a2⟩
theorem FallI.write (h:FallI L n t P J C) (ht:t<=50) (ha:a=0\/3<=a) (ha1:a<=1000) (hp:P n=0) :
  AnsOk 1 0 (L.armed a) (mW (J n)) {kind:=2,epoch:=0,inc:=L.s.inc,lsn:=((J n+1:Nat):Int)} (((L.armed a).addRecs [fF (J n)]).scl ((J n+1:Nat):Int)):=by
 obtain ⟨hf,hn,hd⟩:=h.fits ht;have hj:=h.j;have hfn:((L.armed a).h.addAll [fF (J n)]).Fine:=by show (L.h.addAll [fF (J n)]).Fine;rw [hd];exact rowN_fine fF_num (h:={L.h with l:=rowN fF (J n+1),known:=false}) rfl (fun q=>by cases q) (by omega)
 exact @ansWrite 1 0 (L.armed a) (mW (J n)) ((J n+1:Nat):Int) (h.goodA (by omega) ha ha1) rfl (by show 1<=16384;decide) (fun x hx=>by rw [List.mem_singleton.1 hx];rfl) hf
  (by show ({kind:=0,recs:=L.h.news [fF (J n)]}:Cl).b.length<=244;rw [hn];exact recC_len (by omega)) (fun _=>h.room (by omega) a) (by show (0:Int)=L.s.installed;rw [h.s];rfl) (by show (0:Int)=L.s.promise;rw [h.s];exact hp.symm) hfn
  (fun u hu=>by
   have hu2:ChainR (L.h.addAll [fF (J n)]).l 0 u:=hu;rw [hd] at hu2;exact (rowN_chain fF_num (J n+1)).2 u hu2)
theorem FallI.writeNext (h:FallI L n t P J C) (ht:t<=50):Fall ((((L.armed a).addRecs [fF (J n)]).scl ((J n+1:Nat):Int)).armed 0) (t+1) (P n) (J n+1):=by
 obtain ⟨hf,hn,hd⟩:=h.fits ht;have e0:(L.armed a).addRecs [fF (J n)]=(L.armed a).laid (recC (J n)) L.s {L.h with l:=rowN fF (J n+1),known:=false}:=by unfold Lg.addRecs;rw [show (L.armed a).h.news [fF (J n)]= [fF (J n)] from hn,if_neg (by simp),show (L.armed a).h.addAll [fF (J n)]=_ from hd];rfl
 rw [e0];refine ⟨n+1,_,_,_,⟨h.hist.recd, ?_, ?_,h.gr,h.spans, ?_,fun _=>(rowN_chain fF_num (J n+1)).1, ?_, ?_,by have:=h.n1;omega⟩,updF_eq _ _ _,updF_eq _ _ _⟩
 ·have e1:((((L.armed a).laid (recC (J n)) L.s {L.h with l:=rowN fF (J n+1),known:=false}).scl ((J n+1:Nat):Int)).armed 0).d={(({L.d with arm:=a}:Dk).wr ((L.end_:Nat):Int) (blkC L.calls (recC (J n)))).sync with arm:=0}:=rfl;rw [e1,h.fin,h.calls];exact h.dk.lay a (recC (J n))
 ·show L.s=_;rw [h.s,updF_eq]
 ·show rowN fF (J n+1)=_;rw [updF_eq]
 ·show L.end_+1=_;rw [h.fin]
 show L.calls+1=_;rw [h.calls]
theorem FallI.writeX (h:FallI L n t P J C) (ht:t<=50) (hkk:a=1\/a=2) (hp:P n=0):AnsX ad 1 0 a L (mW (J n)) (recC (J n)):=fun I hL hS hm hst=>by
 obtain ⟨hf,hn,hd⟩:=h.fits ht;have hj:=h.j;have:=AnsWriteX_spec hkk I hL hS (h.good (by omega)) hm hst rfl (fun x hx=>by rw [List.mem_singleton.1 hx];rfl) (by show 1<=16384;decide) hf (by show ({kind:=0,recs:=L.h.news [fF (J n)]}:Cl).b.length<=244;rw [hn];exact recC_len (by omega)) (by show L.h.news [fF (J n)]≠ [];rw [hn];simp) (h.room (by omega) a) (by rw [h.s];rfl) (by rw [h.s];exact hp.symm);rw [show L.h.news (mW (J n)).recs= [fF (J n)] from hn] at this;exact this
end
open Go
variable {P:Program} {env:Env}
def fieldAt (P:Program) (s:TypeId) (f:Nat):Option Nat:=
  match P.underlying s with
  |some (.struct fs)=>match fs[f]? with
    |some fl=>if isScal P fl.type=true then some fl.offset else none
    |none=>none
  |_=>none
theorem p_field {s:TypeId} {x:Operand} {f n:Nat} {cs:List Value} {v:Value} (hx:ev env x=some (.agg cs.toArray)) (hf:fieldAt P s f=some n) (hv:getL cs n=some v) :
    PureOp P env (.field s x f) v:=fun _ a w o Z ho=>by
  have h1:=Z.eval hx;unfold fieldAt at hf;split at hf<;>try cases hf
  rename_i fs hs;split at hf<;>try cases hf
  rename_i fl hfl;split at hf<;>try cases hf
  rename_i hsc;rw [getL_eq] at hv;have h2:=isAgg_scal (P:=P) hsc w;have h3:(asAgg (.agg cs.toArray)).run P w= .ok cs.toArray w:=rfl;have h4:(underlying s).run P w= .ok (.struct fs) w:=by simp [underlying,program,hs,Sem.run]
  simp only [execOp,ho,h1,Instr.field,Sem.run_bind,h4,Result.andThen_ok,hfl,h3,part,h2,Bool.false_eq_true,if_false];simp [hv]
end Go.Proofs.YtikllmoofngjnaaGreatDoor.B
