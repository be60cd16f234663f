/- What functions of the program compute, each function once: steps over the model, and the plain law of it. -/
import Derived.Test.YtkknmpkcfpdllaaGreatDoorTValuesP
import Derived.Test.YtkknmpkcfpdllaaGreatDoorTUndoReadPure
namespace Go.Proofs.YtkknmpkcfpdllaaGreatDoor.B
open Go
set_option linter.unusedVariables false
set_option linter.unusedSimpArgs false
instance:Inhabited Ent:=⟨⟨0,0, [],false, []⟩⟩
def ueOf (e:Ent):Bs×Bs:=(keyL e.tx e.n,e.enc)
def befE (a b:Ent):Prop:=a.tx<b.tx∨(a.tx=b.tx∧a.n<b.n)
instance (a b:Ent):Decidable (befE a b):=inferInstanceAs (Decidable (_∨_))
def withE:List Ent→Ent→List Ent
 | [],e=> [e]
 |a::r,e=>if befE a e then a::withE r e else if a.tx=e.tx∧a.n=e.n then e::r else e::a::r
def plE:List Ent→Ent→Nat
 | [],_=>0
 |a::r,e=>if befE a e then plE r e+1 else 0
theorem pl_le (e:Ent): ∀l:List Ent,plE l e≤l.length
 | []=>Nat.le_refl _
 |a::r=>by
  have:=pl_le e r;rw [plE];split
  ·simp only [List.length_cons];omega
  omega
theorem pl_run {e:Ent}: ∀(l:List Ent) {j:Nat} {a:Ent},j<plE l e→l[j]? =some a→befE a e
 | [],j,a,h,_=>by simp [plE] at h
 |x::r,j,a,h,ha=>by
  rw [plE] at h;by_cases hx:befE x e
  ·rw [if_pos hx] at h;cases j with
   |zero=>
    obtain rfl:x=a:=by simpa using ha
    exact hx
   |succ j=>exact pl_run r (j:=j) (by omega) (by simpa using ha)
  rw [if_neg hx] at h;omega
theorem pl_stop {e:Ent}: ∀(l:List Ent) {a:Ent},l[plE l e]? =some a→ ¬befE a e
 | [],a,h=>by simp [plE] at h
 |x::r,a,h=>by
  rw [plE] at h;by_cases hx:befE x e
  ·rw [if_pos hx] at h;exact pl_stop r (by simpa using h)
  rw [if_neg hx] at h;obtain rfl:x=a:=by simpa using h
  exact hx
theorem pl_step {l:List Ent} {e a:Ent} {j:Nat} (hj:j≤plE l e) (ha:l[j]? =some a) (hb:befE a e):j+1≤plE l e:=by
 rcases Nat.lt_or_eq_of_le hj with h|h
 ·exact h
 exact absurd hb (pl_stop l (h▸ha))
theorem pl_here {l:List Ent} {e a:Ent} {j:Nat} (hj:j≤plE l e) (ha:l[j]? =some a) (hb: ¬befE a e):j=plE l e:=by
 rcases Nat.lt_or_eq_of_le hj with h|h
 ·exact absurd (pl_run l h ha) hb
 exact h
theorem with_same {e:Ent}: ∀(l:List Ent) {a:Ent},l[plE l e]? =some a→(a.tx=e.tx∧a.n=e.n)→l.take (plE l e)++ [e]++l.drop (plE l e+1)=withE l e
 | [],a,h,_=>by simp [plE] at h
 |x::r,a,h,hs=>by
  rw [plE] at h ⊢;rw [withE];by_cases hx:befE x e
  ·rw [if_pos hx] at h ⊢;rw [if_pos hx,←with_same r (by simpa using h) hs];simp
  rw [if_neg hx] at h ⊢;obtain rfl:x=a:=by simpa using h
  rw [if_neg hx,if_pos hs];simp
theorem with_new {e:Ent}: ∀(l:List Ent),(∀a,l[plE l e]? =some a→ ¬(a.tx=e.tx∧a.n=e.n))→l.take (plE l e)++ [e]++l.drop (plE l e)=withE l e
 | [],_=>rfl
 |x::r,h=>by
  rw [plE] at h ⊢;rw [withE];by_cases hx:befE x e
  ·rw [if_pos hx] at h ⊢;rw [if_pos hx,←with_new r (fun a ha=>h a (by simpa using ha))];simp
  rw [if_neg hx] at h ⊢;rw [if_neg hx,if_neg (h x rfl)];simp
theorem with_len (e:Ent): ∀l:List Ent,(withE l e).length≤l.length+1
 | []=>by simp [withE]
 |a::r=>by
  have:=with_len e r;rw [withE];split
  ·simp only [List.length_cons];omega
  split<;>simp
theorem with_mem {e:Ent}: ∀(l:List Ent) {a:Ent},a∈withE l e→a=e∨a∈l
 | [],a,h=>by simpa [withE] using h
 |x::r,a,h=>by
  rw [withE] at h;split at h
  ·rcases List.mem_cons.1 h with h|h
   ·exact .inr (by simp [h])
   rcases with_mem r h with h|h
   ·exact .inl h
   exact .inr (by simp [h])
  split at h
  ·rcases List.mem_cons.1 h with h|h
   ·exact .inl h
   exact .inr (by simp [h])
  rcases List.mem_cons.1 h with h|h
  ·exact .inl h
  exact .inr h
theorem with_ins {e:Ent} (he:e.Ok): ∀l:List Ent,(∀a∈l,a.Ok)→(withE l e).map ueOf=insKv (l.map ueOf) (keyL e.tx e.n) e.enc
 | [],_=>rfl
 |a::r,h=>by
  have ha:=h a (by simp);have ih:=with_ins he r (fun b hb=>h b (by simp [hb]));have h1:=ltB_key ha.1 he.1;have h2:=key_eq ha.1 he.1;rw [withE];show List.map ueOf (if befE a e then a::withE r e else if a.tx=e.tx∧a.n=e.n then e::r else e::a::r)=(if ltB (keyL a.tx a.n) (keyL e.tx e.n)=true then ueOf a::insKv (r.map ueOf) (keyL e.tx e.n) e.enc else if keyL a.tx a.n=keyL e.tx e.n then (keyL a.tx a.n,e.enc)::r.map ueOf else (keyL e.tx e.n,e.enc)::ueOf a::r.map ueOf);by_cases hb:befE a e
  ·have h3:ltB (keyL a.tx a.n) (keyL e.tx e.n)=true:=by rw [h1];exact hb
   rw [if_pos hb,if_pos h3,List.map_cons,ih]
  have h3: ¬ltB (keyL a.tx a.n) (keyL e.tx e.n)=true:=by rw [h1];exact hb
  rw [if_neg hb,if_neg h3];by_cases hs:a.tx=e.tx∧a.n=e.n
  ·have h4:keyL a.tx a.n=keyL e.tx e.n:=by rw [h2];exact hs
   rw [if_pos hs,if_pos h4,h4,List.map_cons];rfl
  have h4: ¬keyL a.tx a.n=keyL e.tx e.n:=by rw [h2];exact hs
  rw [if_neg hs,if_neg h4];rfl
def UIn (kv:Ens) (hv:List Ent):Prop:=(∀a∈hv,a.Ok)∧ ∃A:Ens,kv=A++hv.map ueOf∧ ∀a∈A,∃k,a.1=107::k
theorem UIn.nil:UIn [] []:=⟨by simp, [],rfl,by simp⟩
theorem UIn.undo {kv:Ens} {hv:List Ent} {e:Ent} (h:UIn kv hv) (he:e.Ok):UIn (insKv kv (keyL e.tx e.n) e.enc) (withE hv e):=by
 obtain ⟨h1,A,rfl,h2⟩:=h;refine ⟨fun a ha=> ?_,A, ?_,h2⟩
 ·rcases with_mem hv ha with q|q
  ·exact q▸he
  exact h1 a q
 rw [insKv_left A (fun a ha=>by obtain ⟨k,hk⟩:=h2 a ha;rw [hk];exact ltB_user k _ _),with_ins he hv h1]
theorem UIn.user {kv:Ens} {hv:List Ent} {k v:Bs} (h:UIn kv hv):UIn (insKv kv (107::k) v) hv:=by
 obtain ⟨h1,A,rfl,h2⟩:=h;refine ⟨h1,insKv A (107::k) v, ?_,fun a ha=> ?_⟩
 ·rw [insKv_right (fun a ha=> ?_)];obtain ⟨b,_,rfl⟩:=List.mem_map.1 ha;exact ltB_user k _ _
 rcases insKv_mem A ha with q|q
 ·exact ⟨k,by rw [q]⟩
 exact h2 a q
theorem UIn.first {kv:Ens} {hv:List Ent} (h:UIn kv hv):fromKv [117] false kv=(hv[0]?).map ueOf:=by
 obtain ⟨h1,A,rfl,h2⟩:=h;rw [fromKv_left A (fun a ha=>by obtain ⟨k,hk⟩:=h2 a ha;rw [hk];simp [ltB])];cases hv with
 |nil=>rfl
 |cons a r=>
  rw [List.map_cons,fromKv,if_neg]
  ·rfl
  rintro (q|⟨q,_⟩)
  ·simp only [ueOf,keyL,List.cons_append,ltB,if_true] at q;cases q
  cases q
theorem be8_inj {t s:Int} (h1:1≤t∧t≤2251799813685248) (h2:1≤s∧s≤2251799813685248) (h:be8 t=be8 s):t=s:=by
 have:=key_eq (t:=t) (s:=s) (n:=0) (m:=0) ⟨h1.1,h1.2,by omega,by omega⟩ ⟨h2.1,h2.2,by omega,by omega⟩;have h3:keyL t 0=keyL s 0:=by simp only [keyL,h]
 rw [this] at h3;exact h3.1
theorem beg_key {t s n:Int} (h1:1≤t∧t≤2251799813685248) (h2:1≤s∧s≤2251799813685248):begB (117::be8 t) (keyL s n)=decide (s=t):=by
 have e1:(keyL s n).length=10:=keyL_len _ _;have e2:(117::be8 t).length=9:=by simp [be8_len]
 have e3:(keyL s n).take 9=117::be8 s:=by simp only [keyL,List.cons_append,List.take_succ_cons];rw [List.take_left' (be8_len _)]
 simp only [begB,e1,e2,e3];by_cases h:s=t
 ·subst h;simp
 have h3: ¬be8 s=be8 t:=fun q=>h (be8_inj h2 h1 q);simp [h,h3]
theorem UIn.want {kv:Ens} {hv:List Ent} {t:Int} (h:UIn kv hv) (ht:1≤t∧t≤2251799813685248):wantE (117::be8 t) kv=(hv.filter fun a=>decide (a.tx=t)).map ueOf:=by
 obtain ⟨h1,A,rfl,h2⟩:=h;unfold wantE;rw [List.filter_append];have e1:A.filter (fun e=>begB (117::be8 t) e.1)= []:=by rw [List.filter_eq_nil_iff];intro x hx;obtain ⟨k,hk⟩:=h2 x hx;rw [hk];simp [begB]
 rw [e1,List.nil_append,List.filter_map];congr 1;apply List.filter_congr;intro a ha;have:=h1 a ha;exact beg_key ht ⟨this.1.1,this.1.2.1⟩
theorem UIn.of_beg {kv:Ens} {hv:List Ent} {t:Int} (h:UIn kv hv) {x:Bs×Bs} (hx:x∈kv) (hb:begB (117::be8 t) x.1=true): ∃e∈hv,x=ueOf e:=by
 obtain ⟨h1,A,rfl,h2⟩:=h;rcases List.mem_append.1 hx with q|q
 ·obtain ⟨k,hk⟩:=h2 x q;rw [hk] at hb;simp [begB] at hb
 obtain ⟨e,he,rfl⟩:=List.mem_map.1 q;exact ⟨e,he,rfl⟩
def decE (l:Ens):List Ent:=l.filterMap fun x=>match readP x.1 x.2 with
 | .inr e=>some e
 | .inl _=>none
theorem read_ent {e:Ent} (h:e.Ok):readP (keyL e.tx e.n) e.enc= .inr e:=by have:=read_enc h [];simpa using this
theorem dec_ent: ∀l:List Ent,(∀a∈l,a.Ok)→decE (l.map ueOf)=l
 | [],_=>rfl
 |a::r,h=>by
  have ih:=dec_ent r (fun b hb=>h b (by simp [hb]));have ha:=read_ent (h a (by simp));simp only [decE,List.map_cons,List.filterMap_cons,ueOf,ha] at ih ⊢;rw [ih]
theorem dec_step {kv:Ens} {s i:Nat} {e:Ent} (hx:kv[s+i]? =some (ueOf e)) (he:e.Ok):decE ((kv.drop s).take (i+1))=decE ((kv.drop s).take i)++ [e]:=by rw [List.take_add_one,List.getElem?_drop,hx];simp only [decE,List.filterMap_append,Option.toList_some,List.filterMap_cons,List.filterMap_nil,ueOf,read_ent he]
theorem dec_len (l:Ens):(decE l).length≤l.length:=List.length_filterMap_le _ _
theorem dec_done {kv:Ens} {hv:List Ent} {t:Int} (h:UIn kv hv) (ht:1≤t∧t≤2251799813685248) (hso:Sorted kv) {i:Nat} (hd:Done kv (fromK (117::be8 t) false kv) (begB (117::be8 t)) i) :
  decE ((kv.drop (fromK (117::be8 t) false kv)).take i)=hv.filter fun a=>decide (a.tx=t):=by
 rw [←(want_done hso hd).1,h.want ht];exact dec_ent _ (fun a ha=>h.1 a (List.mem_filter.1 ha).1)
theorem filt_get {α:Type} {p:α→Bool}: ∀{l:List α} {j:Nat} {x:α},l[j]? =some x→p x=true→(l.filter p)[((l.take j).filter p).length]? =some x
 | [],j,x,h,_=>by simp at h
 |a::r,0,x,h,hp=>by
  obtain rfl:a=x:=by simpa using h
  simp [hp]
 |a::r,j+1,x,h,hp=>by
  have ih:=filt_get (p:=p) (l:=r) (j:=j) (x:=x) (by simpa using h) hp;by_cases ha:p a=true
  ·simp [ha,ih]
  simp [ha,ih]
theorem filt_take {α:Type} {p:α→Bool} {l:List α} {j:Nat} {x:α} (h:l[j]? =some x):((l.take (j+1)).filter p).length=((l.take j).filter p).length+if p x=true then 1 else 0:=by rw [List.take_add_one,h,List.filter_append,List.length_append];by_cases hx:p x=true<;>simp [hx]
structure Finds (b:Bt) (c:Nat) (kv:Ens) (hv:List Ent):Prop where
 run:Runs (newBt E0) b (601*c)
 h:Holds b kv
 len:kv.length≤c
 fine: ∀e∈kv,e.1.length≤32∧e.2.length≤64
 u:UIn kv hv
 hl:hv.length≤c
theorem Finds.start:Finds (newBt E0) 0 [] []:=⟨Runs.refl _ _,E0_holds.2,by simp,by simp,UIn.nil,by simp⟩
theorem Finds.idle {b:Bt} {c c':Nat} {kv:Ens} {hv:List Ent} (h:Finds b c kv hv) (hc:c≤c'):Finds b c' kv hv:=
 ⟨h.run.mono (by omega),h.h,by have:=h.len;omega,h.fine,h.u,by have:=h.hl;omega⟩
theorem Finds.undo {b:Bt} {c:Nat} {kv:Ens} {hv:List Ent} {e:Ent} (h:Finds b c kv hv) (hc:c≤600) (he:e.Ok): ∃b',b.put (keyL e.tx e.n) e.enc= .ok b'∧Finds b' (c+1) (insKv kv (keyL e.tx e.n) e.enc) (withE hv e):=by
 have h1:=enc_len he;have h2:=keyL_len e.tx e.n;obtain ⟨b',h3,h4,h5⟩:=runs_step (k:=keyL e.tx e.n) (v:=e.enc) (AllOk.new E0_ok) h.run h.h (by have:=h.len;omega) (by rw [rightK,decide_eq_true_eq];omega) (by omega);refine ⟨b',h3,h4,h5,by have:=(insKv_len (k:=keyL e.tx e.n) (v:=e.enc) kv).2;have:=h.len;omega,fun x hx=> ?_,h.u.undo he,by have:=with_len e hv;have:=h.hl;omega⟩;rcases insKv_mem kv hx with q|q
 ·subst q;simp only [];omega
 exact h.fine x q
theorem Finds.user {b:Bt} {c:Nat} {kv:Ens} {hv:List Ent} {k:Bs} (h:Finds b c kv hv) (hc:c≤600) (h1:1≤k.length) (h2:k.length≤20): ∃b',b.put (107::k) [1]= .ok b'∧Finds b' (c+1) (insKv kv (107::k) [1]) hv:=by
 obtain ⟨b',h3,h4,h5⟩:=runs_step (k:=107::k) (v:= [1]) (AllOk.new E0_ok) h.run h.h (by have:=h.len;omega) (by rw [rightK,decide_eq_true_eq];simp only [List.length_cons];omega) (by simp);refine ⟨b',h3,h4,h5,by have:=(insKv_len (k:=107::k) (v:= [1]) kv).2;have:=h.len;omega,fun x hx=> ?_,h.u.user,by have:=h.hl;omega⟩;rcases insKv_mem kv hx with q|q
 ·subst q;simp only [List.length_cons,List.length_nil];omega
 exact h.fine x q
theorem Finds.recs {b:Bt} {c:Nat} {kv:Ens} {hv:List Ent} (h:Finds b c kv hv):b.recs.length≤601*c∧b.pool=E0.f:=by have h1:=Runs.len h.run;have e0:(newBt E0).recs.length=0:=rfl;exact ⟨by omega,h1.2⟩
theorem Finds.laid {b:Bt} {c:Nat} {kv:Ens} {hv:List Ent} (h:Finds b c kv hv) (hc:c≤600): ∃P9 m9,laidP E0 b.recs 4=some (P9,m9)∧PoolOk P9 kv:=by obtain ⟨_,P9,h1,h2⟩:=laid_holds E0_ok (by omega) h.run (by omega) h.h (by have:=h.len;omega);exact ⟨P9,_,h1,PoolOk.of (AllOk.new h2.1) h2.2 (by have:=h.len;omega) (fun e he=>(h.fine e he).1) (fun e he=>(h.fine e he).2)⟩
def IzR (D:Sto) (vs:List Value) (x:Int):Prop:=vs= [.int .i64 x]
theorem IzR.keeps:Keeps IzR:=fun _ _ _ _ _ h=>h
theorem At.one_iz {D:Sto} (a:Int):At 1 IzR D #[.int .i64 a] 0 [a]:=by have:=At.snoc (At.nil (R:=IzR) (D:=D) (size:=1)) (by simp) (show ([.int .i64 a]:List Value).length=1 from rfl) (show IzR D [.int .i64 a] a from rfl);simpa using this []
theorem OR_one_iz {D:Sto} {T b:Nat} (a:Int):OR 1 IzR D T (.slice (some ⟨b,0,none⟩) 1 1) [a] [(b, .cells #[.int .i64 a] T (0,0))]:=
 OR.ofAt rfl (Nat.le_refl _) (by simp [maxLen]) rfl (At.one_iz a)
end Go.Proofs.YtkknmpkcfpdllaaGreatDoor.B
