/- What functions of the program compute, each function once: steps over the model, and the plain law of it. -/
import Derived.Test.YtkknmpkcfpdllaaGreatDoorTTreeLaid
import Derived.Test.YtkknmpkcfpdllaaGreatDoorTScanRel
namespace Go.Proofs.YtkknmpkcfpdllaaGreatDoor.B
open Go
set_option linter.unusedVariables false
set_option linter.unusedSimpArgs false
theorem all_len: ∀(rs:List Rc) {b b':Bt},b.all rs= .ok b'→b'.recs.length=b.recs.length+rs.length∧b'.pool=b.pool
 | [],b,b',h=>by rw [Bt.all] at h;injection h with h;subst h;exact ⟨rfl,rfl⟩
 |r::rs,b,b',h=>by
  rw [Bt.all] at h;split at h
  ·cases h
  rename_i b1 hb;have:=all_len rs h;rw [Bt.doR] at hb;split at hb
  ·cases hb
  injection hb with hb;subst hb
  simp only [List.length_append,List.length_cons,List.length_nil] at this ⊢;exact ⟨by omega,this.2⟩
theorem Runs.len {b b':Bt} {k:Nat} (h:Runs b b' k):b'.recs.length≤b.recs.length+k∧b'.pool=b.pool:=by obtain ⟨rs,h1,_,h3⟩:=h;have:=all_len rs h3;exact ⟨by omega,this.2⟩
theorem right_of {k:Bs} (h1:k≠ []) (h2:(k.length:Int)≤32):rightK k=true:=by rw [rightK,decide_eq_true_eq];have:k.length≠0:=fun e=>h1 (List.length_eq_zero_iff.1 e);omega
theorem findP_run {k:Bs}: ∀(l:Ens) {j:Nat} {e:Bs×Bs},j<(findP l k).1→l[j]? =some e→ltB e.1 k=true
 | [],j,e,h,_=>by simp [findP] at h
 |x::r,j,e,h,he=>by
  rw [findP] at h;by_cases hx:ltB x.1 k=true
  ·rw [if_pos hx] at h;cases j with
   |zero=>
    obtain rfl:x=e:=by simpa using he
    exact hx
   |succ j=>
    have h':j<(findP r k).1:=by simp only at h;omega
    exact findP_run r h' (by simpa using he)
  rw [if_neg hx] at h;simp at h
theorem findP_stop {k:Bs}: ∀(l:Ens) {e:Bs×Bs},l[(findP l k).1]? =some e→ ¬ltB e.1 k=true∧((findP l k).2=true↔e.1=k)
 | [],e,h=>by simp [findP] at h
 |x::r,e,h=>by
  rw [findP] at h ⊢;by_cases hx:ltB x.1 k=true
  ·rw [if_pos hx] at h ⊢;exact findP_stop r (by simpa using h)
  rw [if_neg hx] at h ⊢;obtain rfl:x=e:=by simpa using h
  exact ⟨hx,by simp⟩
theorem findP_end {k:Bs}: ∀(l:Ens),l.length≤(findP l k).1→(findP l k).2=false
 | [],_=>rfl
 |x::r,h=>by
  rw [findP] at h ⊢;by_cases hx:ltB x.1 k=true
  ·rw [if_pos hx] at h ⊢;exact findP_end r (by simpa using h)
  rw [if_neg hx] at h;simp at h
theorem find_step {kv:Ens} {k:Bs} {j:Nat} {e:Bs×Bs} (hj:j≤(findP kv k).1) (he:kv[j]? =some e) (hl:ltB e.1 k=true):j+1≤(findP kv k).1:=by
 rcases Nat.lt_or_eq_of_le hj with h|h
 ·exact h
 exfalso;rw [h] at he;exact (findP_stop kv he).1 hl
theorem find_here {kv:Ens} {k:Bs} {j:Nat} {e:Bs×Bs} (hj:j≤(findP kv k).1) (he:kv[j]? =some e) (hl: ¬ltB e.1 k=true):j=(findP kv k).1∧((findP kv k).2=true↔e.1=k):=by
 have h:j=(findP kv k).1:=by
  rcases Nat.lt_or_eq_of_le hj with h|h
  ·exact absurd (findP_run kv h he) hl
  exact h
 exact ⟨h,(findP_stop kv (h▸he)).2⟩
theorem find_last {kv:Ens} {k:Bs} {j:Nat} (hj:j≤(findP kv k).1) (hl:kv.length≤j):j=(findP kv k).1∧(findP kv k).2=false:=by
 have h1:=findP_le kv k;have h:j=(findP kv k).1:=by omega
 exact ⟨h,findP_end kv (by omega)⟩
theorem ins_set {kv:Ens} {k v:Bs} {j:Nat} {e:Bs×Bs} (hj:j=(findP kv k).1) (he:kv[j]? =some e) (hk:e.1=k):kv.set j (k,v)=insKv kv k v:=by
 have h2:=(findP_stop kv (hj▸he)).2.2 hk;rw [←insKv_found kv h2,←hj];apply List.ext_getElem?;intro q;rw [List.getElem?_set,List.getElem?_modify];by_cases hq:j=q
 ·subst hq;rw [if_pos rfl,if_pos (List.getElem?_eq_some_iff.1 he).1,he];simp [hk]
 rw [if_neg hq];simp [hq]
theorem ins_new {kv:Ens} {k v:Bs} {j:Nat} (hj:j=(findP kv k).1) (h2:(findP kv k).2=false):(kv.take j++ [(k,v)])++kv.drop j=insKv kv k v:=by
 have hle:j≤kv.length:=by have:=findP_le kv k;omega
 rw [←insKv_new kv h2,←hj];clear hj h2;induction kv generalizing j with
 |nil=>
  obtain rfl:j=0:=by simpa using hle
  simp
 |cons x r ih=>
  cases j with
  |zero=>simp
  |succ j=>
   have:=ih (j:=j) (by simpa using hle);simp only [List.take_succ_cons,List.drop_succ_cons,List.insertIdx_succ_cons,List.cons_append];rw [←this]
def madeKv (l:List Bs):Nat→Ens
 |0=> []
 |n+1=>match l[n]? with
  |none=>madeKv l n
  |some k=>if k.length<1∨32<k.length then madeKv l n else insKv (madeKv l n) k [n % 256]
theorem made_skip {l:List Bs} {n:Nat} {k:Bs} (h:l[n]? =some k) (hk:k.length<1∨32<k.length):madeKv l (n+1)=madeKv l n:=by rw [madeKv,h];simp only [];rw [if_pos hk]
theorem made_put {l:List Bs} {n:Nat} {k:Bs} (h:l[n]? =some k) (h1:1≤k.length) (h2:k.length≤32):madeKv l (n+1)=insKv (madeKv l n) k [n % 256]:=by rw [madeKv,h];simp only [];rw [if_neg (by omega)]
structure KvFine (kv:Ens) (n:Nat):Prop where
 len:kv.length≤n
 ents: ∀e∈kv,(1≤e.1.length∧e.1.length≤32)∧e.2.length=1
theorem made_fine (l:List Bs): ∀n,KvFine (madeKv l n) n
 |0=>⟨by simp [madeKv],by simp [madeKv]⟩
 |n+1=>by
  have ih:=made_fine l n;rw [madeKv];split
  ·exact ⟨by have:=ih.len;omega,ih.ents⟩
  rename_i k hk;split
  ·exact ⟨by have:=ih.len;omega,ih.ents⟩
  refine ⟨by have:=(insKv_len (k:=k) (v:= [n % 256]) (madeKv l n)).2;have:=ih.len;omega,fun e he=> ?_⟩;rcases insKv_mem _ he with rfl|he
  ·exact ⟨by simp only;omega,rfl⟩
  exact ih.ents e he
theorem EnR.one {D:Sto} {vs:List Value} {x:Bs×Bs} (h:EnR D vs x): ∀u∈vs,u.oneCell'=true:=by
 obtain ⟨k,v,rfl,hk,hv,_⟩:=h;intro u hu;simp only [List.mem_cons,List.not_mem_nil,or_false] at hu;rcases hu with rfl|rfl
 ·exact hk.one
 exact hv.one
theorem made_step {P:Pl} {b:Bt} {l:List Bs} {i:Nat} {k:Bs} (hP:AllOk (newBt P)) (hr:Runs (newBt P) b (601*i)) (hb:Holds b (madeKv l i)) (hx:l[i]? =some k) (h1:1≤k.length) (h2:k.length≤32) (hl:i≤600) :
  ∃b',b.put k [i % 256]= .ok b'∧Runs (newBt P) b' (601*(i+1))∧Holds b' (madeKv l (i+1)):=by
 have hne:k≠ []:=by rintro rfl;simp at h1
 have hk:=right_of hne (by omega);have hlen:=(made_fine l i).len;obtain ⟨b',h3,h4⟩:=hb.put (key:=k) (val:= [i % 256]) (by omega) hk (by simp);refine ⟨b',h3, ?_,by rw [made_put hx h1 h2];exact h4⟩;exact hr.trans (put_runs (hr.ok hP) h3) (by omega)
end Go.Proofs.YtkknmpkcfpdllaaGreatDoor.B
