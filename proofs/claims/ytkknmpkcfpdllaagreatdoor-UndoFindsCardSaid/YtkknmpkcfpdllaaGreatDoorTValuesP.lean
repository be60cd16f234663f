/- What functions of the program compute, each function once: steps over the model, and the plain law of it. -/
import Derived.Test.YtkknmpkcfpdllaaGreatDoorTScanRel
import Derived.Test.YtkknmpkcfpdllaaGreatDoorTTreeLaid
namespace Go.Proofs.YtkknmpkcfpdllaaGreatDoor.B
open Go
set_option linter.unusedVariables false
set_option linter.unusedSimpArgs false
def begB (p k:Bs):Bool:=decide (p.length≤k.length) && decide (k.take p.length=p)
theorem beg_ge: ∀{p k:Bs},begB p k=true→ltB k p=false
 | [],k,_=>by cases k<;>rfl
 |x::p, [],h=>by simp [begB] at h
 |x::p,y::k,h=>by
  simp only [begB,List.length_cons,List.take_succ_cons,Bool.and_eq_true,decide_eq_true_eq,List.cons.injEq] at h;have ih:=beg_ge (p:=p) (k:=k) (by simp only [begB,Bool.and_eq_true,decide_eq_true_eq];exact ⟨by omega,h.2.2⟩);rw [ltB,if_pos h.2.1];exact ih
theorem beg_cut: ∀{p k m:Bs},ltB k p=false→begB p k=false→ltB k m=true→begB p m=false
 | [],k,m,_,h,_=>by simp [begB] at h
 |x::p, [],m,h,_,_=>by simp [ltB] at h
 |x::p,y::k, [],_,_,h=>by simp [ltB] at h
 |x::p,y::k,z::m,h1,h2,h3=>by
  rw [ltB] at h1 h3;by_cases hyx:y=x
  ·subst hyx;rw [if_pos rfl] at h1;have h2':begB p k=false:=by
    cases hb:begB p k with
    |false=>rfl
    |true=>
     simp only [begB,Bool.and_eq_true,decide_eq_true_eq] at hb;have:begB (y::p) (y::k)=true:=by simp only [begB,Bool.and_eq_true,decide_eq_true_eq,List.length_cons];exact ⟨by omega,by rw [List.take_succ_cons,hb.2]⟩
     rw [this] at h2;cases h2
   by_cases hzy:y=z
   ·subst hzy;rw [if_pos rfl] at h3;have ih:=beg_cut h1 h2' h3;cases hb:begB (y::p) (y::m) with
    |false=>rfl
    |true=>
     simp only [begB,List.length_cons,List.take_succ_cons,Bool.and_eq_true,decide_eq_true_eq,List.cons.injEq] at hb;have:begB p m=true:=by simp only [begB,Bool.and_eq_true,decide_eq_true_eq];exact ⟨by omega,hb.2.2⟩
     rw [this] at ih;cases ih
   cases hb:begB (y::p) (z::m) with
   |false=>rfl
   |true=>
    simp only [begB,List.length_cons,List.take_succ_cons,Bool.and_eq_true,decide_eq_true_eq,List.cons.injEq] at hb;exact absurd hb.2.1.symm hzy
  rw [if_neg hyx] at h1;have hxy:x<y:=by have:=of_decide_eq_false h1;omega
  cases hb:begB (x::p) (z::m) with
  |false=>rfl
  |true=>
   simp only [begB,List.length_cons,List.take_succ_cons,Bool.and_eq_true,decide_eq_true_eq,List.cons.injEq] at hb;by_cases hyz:y=z
   ·omega
   rw [if_neg hyz] at h3;have:=of_decide_eq_true h3;omega
def wantE (p:Bs) (kv:Ens):Ens:=kv.filter fun e=>begB p e.1
theorem want_nil {p:Bs}: ∀{kv:Ens},Sorted kv→(∀e,kv[0]? =some e→ltB e.1 p=false∧begB p e.1=false)→wantE p kv= []
 | [],_,_=>rfl
 |e::r,hs,h=>by
  have hs':=List.pairwise_cons.1 hs;obtain ⟨h1,h2⟩:=h e rfl;unfold wantE;rw [List.filter_cons_of_neg (by rw [h2];simp)];rw [List.filter_eq_nil_iff];intro x hx;rw [beg_cut h1 h2 (hs'.1 x hx)];simp
theorem want_left {p:Bs}: ∀(L:Ens) {R:Ens},(∀e∈L,ltB e.1 p=true)→wantE p (L++R)=wantE p R:=fun L R h=>by
 unfold wantE;rw [List.filter_append];have:L.filter (fun e=>begB p e.1)= []:=by rw [List.filter_eq_nil_iff];intro x hx hb;have:=beg_ge hb;rw [h x hx] at this;cases this
 rw [this,List.nil_append]
theorem findP_ge {k:Bs}: ∀(l:Ens) {e:Bs×Bs},l[(findP l k).1]? =some e→ltB e.1 k=false
 | [],e,h=>by simp [findP] at h
 |x::r,e,h=>by
  rw [findP] at h;by_cases hx:ltB x.1 k=true
  ·rw [if_pos hx] at h;exact findP_ge r (by simpa using h)
  rw [if_neg hx] at h;obtain rfl:x=e:=by simpa using h
  simpa using hx
theorem findP_all {k:Bs}: ∀(l:Ens),∀e∈l.take (findP l k).1,ltB e.1 k=true
 | [],e,h=>by simp [findP] at h
 |x::r,e,h=>by
  rw [findP] at h;by_cases hx:ltB x.1 k=true
  ·rw [if_pos hx] at h;simp only [List.take_succ_cons,List.mem_cons] at h;rcases h with rfl|h
   ·exact hx
   exact findP_all r e h
  rw [if_neg hx] at h;simp at h
theorem fromK_false (k:Bs) (l:Ens):fromK k false l=(findP l k).1:=by simp [fromK]
theorem want_done {p:Bs} {kv:Ens} (hso:Sorted kv) {n:Nat} (h:Done kv (fromK p false kv) (begB p) n):wantE p kv=(kv.drop (fromK p false kv)).take n∧(wantE p kv).length=n:=by
 obtain ⟨s,hs⟩: ∃s,fromK p false kv=s:=⟨_,rfl⟩;rw [hs] at h ⊢;rw [fromK_false] at hs;have h1:wantE p kv=wantE p (kv.drop s):=by have:=want_left (p:=p) (kv.take s) (R:=kv.drop s) (hs▸findP_all kv);rw [List.take_append_drop] at this;exact this
 have hn:n≤(kv.drop s).length:=by
  rcases Nat.eq_zero_or_pos n with h0|h0
  ·omega
  obtain ⟨x,hx,_⟩:=h.1 (n - 1) (by omega);have:=(List.getElem?_eq_some_iff.1 hx).1;rw [List.length_drop];omega
 have h2:wantE p (kv.drop s)=(kv.drop s).take n:=by
  have e1:kv.drop s=(kv.drop s).take n++(kv.drop s).drop n:=(List.take_append_drop n _).symm;have ha:wantE p ((kv.drop s).take n)=(kv.drop s).take n:=by
   unfold wantE;rw [List.filter_eq_self];intro e he;obtain ⟨j,hj,he⟩:=List.getElem_of_mem he;have hj':j<n:=by rw [List.length_take] at hj;omega
   obtain ⟨x,hx,ht⟩:=h.1 j hj';have h3:((kv.drop s).take n)[j]? =some e:=by rw [←he];exact List.getElem?_eq_getElem hj
   rw [List.getElem?_take_of_lt hj',List.getElem?_drop,hx] at h3;injection h3 with h3
   rw [←h3];exact ht
  have hb:wantE p ((kv.drop s).drop n)= []:=by
   refine want_nil (List.Pairwise.drop (List.Pairwise.drop hso)) fun e he=> ?_;rw [List.getElem?_drop,List.getElem?_drop,Nat.add_zero] at he;have hbe:begB p e.1=false:=by
    have:=h.2 e he;cases hq:begB p e.1 with
    |false=>rfl
    |true=>exact absurd hq this
   refine ⟨?_,hbe⟩;have hsn:=(List.getElem?_eq_some_iff.1 he).1;have hx0:kv[(findP kv p).1]? =some kv[(findP kv p).1]:=List.getElem?_eq_getElem (by omega);have h0:=findP_ge kv hx0;rcases Nat.eq_zero_or_pos n with h9|h9
   ·subst h9;have:kv[(findP kv p).1]? =some e:=by rw [hs];simpa using he
    rw [this] at hx0;injection hx0 with hx0
    rw [hx0];exact h0
   have hlt:=List.pairwise_iff_getElem.1 hso (findP kv p).1 (s+n) (by omega) hsn (by omega);rw [(List.getElem?_eq_some_iff.1 he).2] at hlt;cases hq:ltB e.1 p with
   |false=>rfl
   |true=>
    have:=ltB_trans hlt hq;rw [h0] at this;cases this
  have hc:wantE p (kv.drop s)=wantE p ((kv.drop s).take n)++wantE p ((kv.drop s).drop n):=by
   conv=>lhs;rw [e1]
   unfold wantE;rw [List.filter_append]
  rw [hc,ha,hb,List.append_nil]
 exact ⟨h1.trans h2,by rw [h1,h2,List.length_take];omega⟩
theorem all_len: ∀(rs:List Rc) {b b':Bt},b.all rs= .ok b'→b'.recs.length=b.recs.length+rs.length∧b'.pool=b.pool
 | [],b,b',h=>by rw [Bt.all] at h;injection h with h;subst h;exact ⟨rfl,rfl⟩
 |r::rs,b,b',h=>by
  rw [Bt.all] at h;split at h
  ·cases h
  rename_i b1 hb;have:=all_len rs h;rw [Bt.doR] at hb;split at hb
  ·cases hb
  injection hb with hb;subst hb
  simp only [List.length_append,List.length_cons,List.length_nil] at this ⊢;exact ⟨by omega,this.2⟩
theorem Runs.len {b b':Bt} {k:Nat} (h:Runs b b' k):b'.recs.length≤b.recs.length+k∧b'.pool=b.pool:=by obtain ⟨rs,h1,_,h3⟩:=h;have:=all_len rs h3;exact ⟨by omega,this.2⟩
theorem EnR.one {D:Sto} {vs:List Value} {x:Bs×Bs} (h:EnR D vs x): ∀u∈vs,u.oneCell'=true:=by
 obtain ⟨k,v,rfl,hk,hv,_⟩:=h;intro u hu;simp only [List.mem_cons,List.not_mem_nil,or_false] at hu;rcases hu with rfl|rfl
 ·exact hk.one
 exact hv.one
open Go Go.Proofs
structure Ck where
 seen:List Int
 leaves:List Pg
 keys:Int
section
variable {b:Bt} {f:Nat} {id level:Int} {low:Bs} {high:Option Bs} {c:Ck} {x:Pg}
end
structure CkOk (c:Ck):Prop where
 nodup:c.seen.Nodup
 range: ∀i∈c.seen,0≤i∧i<256
 leaves:c.leaves.length≤c.seen.length
 keys0:0≤c.keys
 keys1:c.keys≤8*(c.leaves.length:Nat)
def chainOk:List Pg→Bool
 | []=>true
 | [x]=>decide (x.next= -1)
 |x::y::r=>decide (x.next=y.id) && chainOk (y::r)
theorem CkOk.put {c:Ck} {id:Int} (h:CkOk c) (hn:id ∉ c.seen) (h0:0≤id∧id<256):CkOk ⟨id::c.seen,c.leaves,c.keys⟩:=
 ⟨List.nodup_cons.2 ⟨hn,h.nodup⟩,fun i hi=>by
  rcases List.mem_cons.1 hi with rfl|hi
  ·exact h0
  exact h.range i hi,by have:=h.leaves;simp only [List.length_cons];omega,h.keys0,h.keys1⟩
theorem CkOk.leaf {c:Ck} {id:Int} {x:Pg} (h:CkOk c) (hn:id ∉ c.seen) (h0:0≤id∧id<256) (hx:x.ents.length≤8):CkOk ⟨id::c.seen,c.leaves++ [x],c.keys+x.ents.length⟩:=
 ⟨(h.put hn h0).nodup,(h.put hn h0).range,by have:=h.leaves;simp only [List.length_cons,List.length_append,List.length_nil];omega,by have:=h.keys0;simp only [];omega,by have:=h.keys1;simp only [List.length_append,List.length_cons,List.length_nil];omega⟩
def LC:List Pg→Int→Int→Prop
 | [],_,_=>False
 | [x],fl,nx=>x.id=fl∧x.next=nx
 |x::y::r,fl,nx=>x.id=fl∧x.next=y.id∧LC (y::r) y.id nx
theorem LC.append {L2:List Pg} {md nx:Int} (h2:LC L2 md nx): ∀(L1:List Pg) {fl:Int},LC L1 fl md→LC (L1++L2) fl nx
 | [],_,h=>h.elim
 | [x],fl,h=>by
  cases L2 with
  |nil=>exact h2.elim
  |cons y r=>
   have hy:y.id=md:=by cases r<;>exact h2.1
   exact ⟨h.1,by rw [h.2,hy],by rw [hy];exact h2⟩
 |x::y::r,fl,h=>⟨h.1,h.2.1,LC.append h2 (y::r) h.2.2⟩
theorem LC.chain: ∀(L:List Pg) {fl:Int},LC L fl (-1)→chainOk L=true
 | [],_,h=>h.elim
 | [x],_,h=>by simp [chainOk,h.2]
 |x::y::r,_,h=>by rw [chainOk,LC.chain (y::r) h.2.2,h.2.1];simp
theorem runs_step {P:Pl} {b:Bt} {kv:Ens} {i:Nat} {k v:Bs} (hP:AllOk (newBt P)) (hr:Runs (newBt P) b (601*i)) (hb:Holds b kv) (hl:kv.length≤700) (hk:rightK k=true) (hv:v.length≤64) :
  ∃b',b.put k v= .ok b'∧Runs (newBt P) b' (601*(i+1))∧Holds b' (insKv kv k v):=by
 obtain ⟨b',h3,h4⟩:=hb.put hl hk hv;exact ⟨b',h3,hr.trans (put_runs (hr.ok hP) h3) (by omega),h4⟩
end Go.Proofs.YtkknmpkcfpdllaaGreatDoor.B
