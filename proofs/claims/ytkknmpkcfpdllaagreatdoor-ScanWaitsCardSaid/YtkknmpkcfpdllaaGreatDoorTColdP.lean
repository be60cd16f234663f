/- What functions of the program compute, each function once: steps over the model, and the plain law of it. -/
import Derived.Test.YtkknmpkcfpdllaaGreatDoorTScanRel
import Derived.Test.YtkknmpkcfpdllaaGreatDoorTTreeChain
namespace Go.Proofs.YtkknmpkcfpdllaaGreatDoor.B
open Go Go.Proofs
set_option linter.unusedVariables false
set_option linter.unusedSimpArgs false
def SubF (C Q:Int→Option Pg):Prop:= ∀id x,Q id=some x→C id=some x∨C id=none
def Lacks (C Q:Int→Option Pg) (id:Int):Prop:=C id=none∧Q id≠none∧0≤id∧id<256
theorem cold_page {C Q:Pl} (h:SubF C.f Q.f) {id:Int} {x:Pg} (hp:(newBt Q).page id= .ok x):(newBt C).page id= .ok x∨((newBt C).page id= .fail 113 (some id)∧Lacks C.f Q.f id):=by
 simp only [Bt.page,newBt] at hp ⊢;split at hp
 ·cases hp
 rename_i hr;rw [if_neg hr];cases hq:Q.f id with
 |none=>rw [hq] at hp;cases hp
 |some y=>
  rw [hq] at hp;simp only [] at hp;rcases h id y hq with h1|h1
  ·rw [h1];exact .inl hp
  rw [h1];exact .inr ⟨rfl,h1,by simp [hq],by omega,by omega⟩
theorem cold_downF {C Q:Pl} (h:SubF C.f Q.f) {key:Bs}: ∀(n:Nat) (id:Int) (l:List Pg) (ks:List Nat) {r},(newBt Q).downF key n id l ks= .ok r→
  (newBt C).downF key n id l ks= .ok r∨ ∃j,(newBt C).downF key n id l ks= .fail 113 (some j)∧Lacks C.f Q.f j
 |0,id,l,ks,r,hq=>by rw [Bt.downF] at hq;cases hq
 |n+1,id,l,ks,r,hq=>by
  rw [Bt.downF] at hq;rw [Bt.downF];cases hp:(newBt Q).page id with
  |fail c o=>rw [hp] at hq;cases hq
  |ok x=>
   rw [hp] at hq;simp only [] at hq;rcases cold_page h hp with h1|⟨h1,h2⟩
   ·rw [h1];simp only [];split at hq
    ·rename_i hl;rw [if_pos hl];exact .inl hq
    rename_i hl;rw [if_neg hl];cases ha:atP x (childP x key) with
    |fail c o=>rw [ha] at hq;cases hq
    |ok id'=>rw [ha] at hq;simp only [] at hq ⊢;exact cold_downF h n id' _ _ hq
   rw [h1];exact .inr ⟨id,rfl,h2⟩
theorem cold_fromF {C Q:Pl} (h:SubF C.f Q.f) {key:Bs} {above:Bool}: ∀(n:Nat) (x:Pg) {r},(newBt Q).fromF key above n x= .ok r→
  (newBt C).fromF key above n x= .ok r∨ ∃j,(newBt C).fromF key above n x= .fail 113 (some j)∧Lacks C.f Q.f j
 |0,x,r,hq=> .inl hq
 |n+1,x,r,hq=>by
  rw [Bt.fromF] at hq;rw [Bt.fromF];by_cases h1:(if ((findP x.ents key).2 && above)=true then (findP x.ents key).1+1 else (findP x.ents key).1)<x.ents.length
  ·rw [if_pos h1] at hq ⊢;exact .inl hq
  rw [if_neg h1] at hq ⊢;by_cases h2:x.next= -1
  ·rw [if_pos h2] at hq ⊢;exact .inl hq
  rw [if_neg h2] at hq ⊢;cases hp:(newBt Q).page x.next with
  |fail c o=>rw [hp] at hq;cases hq
  |ok y=>
   rw [hp] at hq;simp only [] at hq;rcases cold_page h hp with h3|⟨h3,h4⟩
   ·rw [h3];exact cold_fromF h n y hq
   rw [h3];exact .inr ⟨_,rfl,h4⟩
theorem cold_from {C Q:Pl} (h:SubF C.f Q.f) {key:Bs} {above:Bool} {r} (hq:(newBt Q).from_ key above= .ok r) :
  (newBt C).from_ key above= .ok r∨ ∃j,(newBt C).from_ key above= .fail 113 (some j)∧Lacks C.f Q.f j:=by
 rw [Bt.from_] at hq;rw [Bt.from_];split at hq
 ·cases hq
 rename_i hl;rw [if_neg hl];rw [Bt.down] at hq;rw [Bt.down];cases hd:(newBt Q).downF key 17 0 [] [] with
 |fail c o=>rw [hd] at hq;cases hq
 |ok p=>
  obtain ⟨l,ks⟩:=p;rw [hd] at hq;simp only [] at hq;rcases cold_downF h _ _ _ _ hd with h1|⟨j,h1,h2⟩
  ·rw [h1];exact cold_fromF h _ _ hq
  rw [h1];exact .inr ⟨j,rfl,h2⟩
def LsnOk (P:Pl):Prop:= ∀id x,P.f id=some x→0≤x.lsn
theorem applyP_lsn {x:Pg} {r:Rc} (hx:0≤x.lsn) (hr:0≤r.lsn):0≤(applyP x r).lsn:=by
 unfold applyP;split
 ·exact hx
 exact hr
theorem LsnOk.apply {P P':Pl} {r:Rc} (h:LsnOk P) (hr:0≤r.lsn) (ht:P.apply r=some P'):LsnOk P':=by
 unfold Pl.apply at ht;split at ht
 ·rename_i x hx;injection ht with ht;subst ht
  intro id y hy;simp only [] at hy;split at hy
  ·injection hy with hy;subst hy;exact applyP_lsn (h _ _ hx) hr
  exact h _ _ hy
 split at ht
 ·injection ht with ht;subst ht
  intro id y hy;simp only [] at hy;split at hy
  ·injection hy with hy;subst hy;exact applyP_lsn (by simp [newPg]) hr
  exact h _ _ hy
 cases ht
theorem LsnOk.laid: ∀(l:List Rc) {P P':Pl} {n m:Int},LsnOk P→0≤n→laidP P l n=some (P',m)→LsnOk P'
 | [],P,P',n,m,h,hn,ht=>by
  rw [laidP] at ht;injection ht with ht;injection ht with h1 h2;subst h1;exact h
 |r::l,P,P',n,m,h,hn,ht=>by
  rw [laidP] at ht;split at ht
  ·cases ht
  cases ha:P.apply {r with lsn:=n} with
  |none=>rw [ha] at ht;cases ht
  |some P1=>
   rw [ha] at ht;exact LsnOk.laid l (h.apply hn ha) (by omega) ht
theorem E0_lsn:LsnOk E0:=LsnOk.laid makeR (P:=Pl.empty) (fun id x hx=>by simp [Pl.empty] at hx) (by omega) E0_laid
def Warm (P:Pl) (kv:Ens):Prop:=LsnOk P∧ ∃n,n≤1000000000∧PHolds P n kv
structure PgFine (p:Pg):Prop where
 id0:0≤p.id
 id1:p.id<256
 l0:0≤p.lsn
 l1:p.lsn≤1099511627776
 v0:0≤p.level
 v1:p.level≤16
 n0: -1≤p.next
 n1:p.next<256
 len:p.ents.length≤8
 ents: ∀e∈p.ents,e.1.length≤32∧e.2.length≤64
theorem Warm.fine {P:Pl} {kv:Ens} (h:Warm P kv) {id:Int} {x:Pg} (hx:P.f id=some x):PgFine x∧x.id=id:=by obtain ⟨h1,n,hn,h2,_⟩:=h;obtain ⟨a,b,c⟩:=h2 id x hx;exact ⟨⟨a.id.1,a.id.2,h1 _ _ hx,by omega,a.level.1,a.level.2,a.next.1,a.next.2,a.len,a.ents⟩,b⟩
def only (f:Int→Option Pg) (ids:List Int):Int→Option Pg:=fun id=>if id∈ids then f id else none
def Stands (P:Pl) (kv:Ens) (ids:List Int):Prop:=ids.length≤190∧(∀j∈ids,0≤j∧j<256∧(P.f j).isSome=true)∧
 ∀C:Pl,(∀id x,C.f id=some x→P.f id=some x)→ ∀key above,key.length≤32→
  (newBt C).from_ key above= .ok (fromKv key above kv)∨ ∃j,(newBt C).from_ key above= .fail 113 (some j)∧C.f j=none∧j∈ids
theorem Chs.has {C:CP} {V:Vw}: ∀(es:Ens) {lo hi fl nx ids kv},(∀id lo hi fl nx js kv,C id lo hi fl nx js kv→ ∀j∈js,(V j).isSome=true)→Chs C es lo hi fl nx ids kv→ ∀j∈ids,(V j).isSome=true
 | [],_,_,_,_,_,_,_,h=>h.elim
 | [e],_,_,_,_,_,_,hC,h=>hC _ _ _ _ _ _ _ h.2
 |e::e2::r,_,_,_,_,_,_,hC,h=>by
  obtain ⟨h0,h1,h2,md,i1,i2,k1,k2,rfl,rfl,h3,h4⟩:=h;intro j hj;rcases List.mem_append.1 hj with q|q
  ·exact hC _ _ _ _ _ _ _ h3 j q
  exact Chs.has (e2::r) hC h4 j q
theorem SubT.has {V:Vw}: ∀(n:Nat) {id lo hi fl nx ids kv},SubT V n id lo hi fl nx ids kv→ ∀j∈ids,(V j).isSome=true
 |0,id,lo,hi,fl,nx,ids,kv,⟨_,h2,x,h3,_⟩,j,hj=>by
  rw [h2] at hj;simp only [List.mem_singleton] at hj;rw [hj,h3];rfl
 |n+1,id,lo,hi,fl,nx,ids,kv,⟨js,h1,x,h2,h3,h4,h5,h6,h7⟩,j,hj=>by
  rw [h1] at hj;rcases List.mem_cons.1 hj with rfl|hj
  ·rw [h2];rfl
  exact Chs.has _ (fun _ _ _ _ _ _ _ hs=>SubT.has n hs) h7 j hj
theorem Warm.stands {P:Pl} {kv:Ens} (h:Warm P kv) (hl:kv.length≤500): ∃ids,Stands P kv ids:=by
 obtain ⟨_,nn,_,hOk,hH⟩:=h;have hso:=hH.sorted;have hA:=AllOk.new hOk;obtain ⟨n,u,fl,ids,h⟩:=hH;obtain ⟨h1,h2⟩:=tr_small h (by omega);obtain ⟨h3,_⟩:=tr_bound h;have hc:=h.c;have hrg:=h.g.rg;have hv: ∀j∈ids,(newBt P).view j=P.f j:=fun j hj=>newBt_view (hrg j hj).1 (by have:=(hrg j hj).2.1;omega);refine ⟨ids,by omega,fun j hj=>⟨(hrg j hj).1,by have:=(hrg j hj).2.1;omega,by rw [←hv j hj];exact SubT.has n h.s j hj⟩,fun C hC key above hk=> ?_⟩;have hQv: ∀j∈ids,(newBt ⟨only P.f ids,0, []⟩).view j=(newBt P).view j:=fun j hj=>by
  rw [hv j hj,newBt_view (hrg j hj).1 (by have:=(hrg j hj).2.1;omega)];simp only [only];rw [if_pos hj]
 have hsub: ∀j x,only P.f ids j=some x→P.f j=some x∧j∈ids:=fun j x hx=>by
  unfold only at hx;split at hx
  ·exact ⟨hx,by assumption⟩
  cases hx
 have hOkQ:PlOk ⟨only P.f ids,0, []⟩ nn:=fun j x hx=>hOk j x (hsub j x hx).1;have hs:=SubT.frame n hQv h.s;obtain ⟨l',ks',y,kvL,kvR,m,hd,rfl,w1,w2,w3,w4,w5⟩:=down_sides (key:=key) (IdsOk.new hOkQ) n 17 [] [] (by omega) hs (InR.all key);have hlast:lastPg ([]++l'++ [y])=y:=lastPg_end _ _;have hsR:Sorted kvR:=(List.pairwise_append.1 hso).2.1;have hq:(newBt ⟨only P.f ids,0, []⟩).from_ key above= .ok (fromKv key above (kvL++y.ents++kvR)):=by rw [Bt.from_,if_neg (by omega),Bt.down,hd];simp only [hlast];rw [List.append_assoc,fromKv_left _ w2];exact fromF_law (AllOk.new hOkQ) m 256 (by omega) w4 w1 w3 hsR
 have hS:SubF C.f (only P.f ids):=fun j x hx=>by
  cases hc:C.f j with
  |none=>exact .inr rfl
  |some z=>have:=hC j z hc;rw [(hsub j x hx).1] at this;exact .inl (this.symm▸rfl)
 rcases cold_from (C:=C) (Q:=⟨only P.f ids,0, []⟩) hS hq with h4|⟨j,h4,h5,h6,_⟩
 ·exact .inl h4
 refine .inr ⟨j,h4,h5, ?_⟩;cases ho:only P.f ids j with
 |none=>exact absurd ho h6
 |some x=>exact (hsub j x ho).2
def missing (C:Pl) (ids:List Int):Nat:=ids.countP fun j=>(C.f j).isNone
theorem missing_less {C C':Pl} {ids:List Int} {j:Int} (hj:j∈ids) (h1:C.f j=none) (h2:(C'.f j).isSome=true) (h3: ∀k,(C.f k).isSome=true→(C'.f k).isSome=true):missing C' ids<missing C ids:=by
 unfold missing;have hle: ∀l:List Int,(l.countP fun k=>(C'.f k).isNone)≤l.countP fun k=>(C.f k).isNone:=fun l=>by
  refine List.countP_mono_left fun k _ hk=> ?_;cases hc:C.f k with
  |none=>rfl
  |some x=>have:=h3 k (by rw [hc];rfl);cases hd:C'.f k with
   |none=>rw [hd] at this;cases this
   |some y=>rw [hd] at hk;cases hk
 obtain ⟨l1,l2,rfl⟩:=List.append_of_mem hj;rw [List.countP_append,List.countP_append,List.countP_cons,List.countP_cons];have e1:(C'.f j).isNone=false:=by cases hd:C'.f j with
  |none=>rw [hd] at h2;cases h2
  |some y=>rfl
 have e2:(C.f j).isNone=true:=by rw [h1];rfl
 rw [e1,e2];have:=hle l1;have:=hle l2;simp;omega
end Go.Proofs.YtkknmpkcfpdllaaGreatDoor.B
