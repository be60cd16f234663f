/- What functions of the program compute, each function once: steps over the model, and the plain law of it. -/
import Derived.Test.YtkknmpkcfpdllaaGreatDoorTColdP
namespace Go.Proofs.YtkknmpkcfpdllaaGreatDoor.B
open Go Go.Proofs
set_option linter.unusedVariables false
set_option linter.unusedSimpArgs false
def cb (C:Int→Option Pg) (b:Bt):Bt:={b with pool:=C}
def KB (C:Int→Option Pg) (b:Bt) {α:Type} (co:α→α) (r:Res α) (y:α):Prop:=r= .ok (co y)∨ ∃j,r= .fail 113 (some j)∧Lacks C b.pool j
theorem KB.pool {C:Int→Option Pg} {b b1:Bt} {α:Type} {co:α→α} {r:Res α} {y:α} (h:KB C b1 co r y) (e:b1.pool=b.pool):KB C b co r y:=by unfold KB at*;rwa [e] at h
theorem page_cold {C:Int→Option Pg} {b:Bt} (h:SubF C b.pool) {id:Int} {x:Pg} (hp:b.page id= .ok x):KB C b _root_.id ((cb C b).page id) x:=by
 unfold KB;simp only [Bt.page,cb] at hp ⊢;split at hp
 ·exact .inl hp
 split at hp
 ·cases hp
 rename_i hr;rw [if_neg hr];cases hq:b.pool id with
 |none=>rw [hq] at hp;cases hp
 |some y=>
  rw [hq] at hp;simp only [] at hp;rcases h id y hq with h1|h1
  ·rw [h1];exact .inl hp
  rw [h1];exact .inr ⟨id,rfl,h1,by simp [hq],by omega,by omega⟩
theorem doR_cold {C:Int→Option Pg} {b b':Bt} (h:SubF C b.pool) {r:Rc} (hp:b.doR r= .ok b'):b'.pool=b.pool∧KB C b (cb C) ((cb C b).doR r) b':=by
 unfold Bt.doR at hp ⊢;by_cases hk:r.kind=1
 ·rw [if_pos hk] at hp ⊢;simp only [] at hp ⊢;injection hp with hp;subst hp
  exact ⟨rfl, .inl rfl⟩
 rw [if_neg hk] at hp ⊢;cases hg:b.page r.page with
 |fail c o=>rw [hg] at hp;cases hp
 |ok x=>
  rw [hg] at hp;simp only [] at hp;injection hp with hp;subst hp
  refine ⟨rfl, ?_⟩;rcases page_cold h hg with k|⟨j,k,k2⟩
  ·rw [k];exact .inl rfl
  rw [k];exact .inr ⟨j,rfl,k2⟩
theorem all_cold {C:Int→Option Pg}: ∀(l:List Rc) {b b':Bt},SubF C b.pool→b.all l= .ok b'→b'.pool=b.pool∧KB C b (cb C) ((cb C b).all l) b'
 | [],b,b',h,hp=>by rw [Bt.all] at hp;injection hp with hp;subst hp;exact ⟨rfl, .inl rfl⟩
 |r::l,b,b',h,hp=>by
  rw [Bt.all] at hp;rw [Bt.all];cases hd:b.doR r with
  |fail c o=>rw [hd] at hp;cases hp
  |ok b1=>
   rw [hd] at hp;simp only [] at hp;obtain ⟨e1,k⟩:=doR_cold h hd;obtain ⟨e2,k3⟩:=all_cold l (b:=b1) (by rw [e1];exact h) hp;refine ⟨e2.trans e1, ?_⟩;rcases k with k|⟨j,k,k2⟩
   ·rw [k];exact k3.pool e1
   rw [k];exact .inr ⟨j,rfl,k2⟩
def cp {α:Type} (C:Int→Option Pg) (p:α×Bt):α×Bt:=(p.1,cb C p.2)
def cq {α:Type} (C:Int→Option Pg) (p:Bt×α):Bt×α:=(cb C p.1,p.2)
theorem pages_cold {C:Int→Option Pg} {b:Bt} (h:SubF C b.pool) {p:Int×Int} (hp:b.pages= .ok p):KB C b _root_.id ((cb C b).pages) p:=by
 unfold Bt.pages at hp ⊢;cases hd:b.page 1 with
 |fail c o=>rw [hd] at hp;cases hp
 |ok x=>
  rw [hd] at hp;simp only [] at hp;rcases page_cold h hd with k|⟨j,k,k2⟩
  ·rw [k];exact .inl hp
  rw [k];exact .inr ⟨j,rfl,k2⟩
theorem count_cold {C:Int→Option Pg} {b b':Bt} (h:SubF C b.pool) {u f:Int} (hp:b.count u f= .ok b'):b'.pool=b.pool∧KB C b (cb C) ((cb C b).count u f) b':=doR_cold h hp
theorem take_cold {C:Int→Option Pg} {b:Bt} (h:SubF C b.pool) {p:Int×Bt} (hp:b.take= .ok p):p.2.pool=b.pool∧KB C b (cp C) ((cb C b).take) p:=by
 unfold Bt.take at hp ⊢;cases hd:b.pages with
 |fail c o=>rw [hd] at hp;cases hp
 |ok q=>
  obtain ⟨used,free⟩:=q;rw [hd] at hp;simp only [] at hp;rcases pages_cold h hd with k|⟨j,k,k2⟩
  ·rw [k];simp only [_root_.id];by_cases h0:free=0
   ·rw [if_pos h0] at hp ⊢;by_cases h1:256≤used
    ·rw [if_pos h1] at hp;cases hp
    rw [if_neg h1] at hp ⊢;cases hc:b.count (used+1) 0 with
    |fail c o=>rw [hc] at hp;cases hp
    |ok b1=>
     rw [hc] at hp;simp only [] at hp;injection hp with hp;subst hp
     obtain ⟨e1,k⟩:=count_cold h hc;refine ⟨e1, ?_⟩;rcases k with k|⟨j,k,k2⟩
     ·rw [k];exact .inl rfl
     rw [k];exact .inr ⟨j,rfl,k2⟩
   rw [if_neg h0] at hp ⊢;cases hg:b.page free with
   |fail c o=>rw [hg] at hp;cases hp
   |ok x=>
    rw [hg] at hp;simp only [] at hp;cases hc:b.count used (max x.next 0) with
    |fail c o=>rw [hc] at hp;cases hp
    |ok b1=>
     rw [hc] at hp;simp only [] at hp;injection hp with hp;subst hp
     obtain ⟨e1,k⟩:=count_cold h hc;refine ⟨e1, ?_⟩;rcases page_cold h hg with k4|⟨j,k4,k5⟩
     ·rw [k4];simp only [_root_.id];rcases k with k|⟨j,k,k2⟩
      ·rw [k];exact .inl rfl
      rw [k];exact .inr ⟨j,rfl,k2⟩
     rw [k4];exact .inr ⟨j,rfl,k5⟩
  rw [k];refine ⟨?_, .inr ⟨j,rfl,k2⟩⟩;by_cases h0:free=0
  ·rw [if_pos h0] at hp;by_cases h1:256≤used
   ·rw [if_pos h1] at hp;cases hp
   rw [if_neg h1] at hp;cases hc:b.count (used+1) 0 with
   |fail c o=>rw [hc] at hp;cases hp
   |ok b1=>rw [hc] at hp;simp only [] at hp;injection hp with hp;subst hp;exact (count_cold h hc).1
  rw [if_neg h0] at hp;cases hg:b.page free with
  |fail c o=>rw [hg] at hp;cases hp
  |ok x=>
   rw [hg] at hp;simp only [] at hp;cases hc:b.count used (max x.next 0) with
   |fail c o=>rw [hc] at hp;cases hp
   |ok b1=>rw [hc] at hp;simp only [] at hp;injection hp with hp;subst hp;exact (count_cold h hc).1
theorem free_cold {C:Int→Option Pg} {b b':Bt} (h:SubF C b.pool) {id:Int} (hp:b.free id= .ok b'):b'.pool=b.pool∧KB C b (cb C) ((cb C b).free id) b':=by
 unfold Bt.free at hp ⊢;cases hd:b.pages with
 |fail c o=>rw [hd] at hp;cases hp
 |ok q=>
  obtain ⟨used,free⟩:=q;rw [hd] at hp;simp only [] at hp;obtain ⟨e1,k3⟩:=all_cold _ h hp;refine ⟨e1, ?_⟩;rcases pages_cold h hd with k|⟨j,k,k2⟩
  ·rw [k];exact k3
  rw [k];exact .inr ⟨j,rfl,k2⟩
theorem fill_cold {C:Int→Option Pg} {b b':Bt} (h:SubF C b.pool) {id level next:Int} {l:Ens} (hp:b.fill id level l next= .ok b'):b'.pool=b.pool∧KB C b (cb C) ((cb C b).fill id level l next) b':=all_cold _ h hp
theorem splitRoot_cold {C:Int→Option Pg} {b b':Bt} (h:SubF C b.pool) {x:Pg} (hp:b.splitRoot x= .ok b'):b'.pool=b.pool∧KB C b (cb C) ((cb C b).splitRoot x) b':=by
 unfold Bt.splitRoot at hp ⊢;cases h1:b.take with
 |fail c o=>rw [h1] at hp;cases hp
 |ok q=>
 obtain ⟨l,b1⟩:=q;rw [h1] at hp;simp only [] at hp;obtain ⟨e1,k1⟩:=take_cold h h1;simp only [] at e1;have s1:SubF C b1.pool:=by rw [e1];exact h
 cases h2:b1.take with
 |fail c o=>rw [h2] at hp;cases hp
 |ok q=>
 obtain ⟨r,b2⟩:=q;rw [h2] at hp;simp only [] at hp;obtain ⟨e2,k2⟩:=take_cold s1 h2;simp only [] at e2;have s2:SubF C b2.pool:=by rw [e2];exact s1
 cases h3:b2.fill l x.level (x.ents.take 4) (if x.level=0 then r else -1) with
 |fail c o=>rw [h3] at hp;cases hp
 |ok b3=>
 rw [h3] at hp;simp only [] at hp;obtain ⟨e3,k3⟩:=fill_cold s2 h3;have s3:SubF C b3.pool:=by rw [e3];exact s2
 cases h4:b3.fill r x.level (x.ents.drop 4) (-1) with
 |fail c o=>rw [h4] at hp;cases hp
 |ok b4=>
 rw [h4] at hp;simp only [] at hp;obtain ⟨e4,k4⟩:=fill_cold s3 h4;have s4:SubF C b4.pool:=by rw [e4];exact s3
 obtain ⟨e5,k5⟩:=all_cold _ s4 hp;refine ⟨e5.trans (e4.trans (e3.trans (e2.trans e1))), ?_⟩;rcases k1 with k|⟨j,k,kl⟩
 ·rw [k];simp only [cp];rcases k2.pool e1 with k|⟨j,k,kl⟩
  ·rw [k];simp only [cp];rcases k3.pool (e2.trans e1) with k|⟨j,k,kl⟩
   ·rw [k];simp only [];rcases k4.pool (e3.trans (e2.trans e1)) with k|⟨j,k,kl⟩
    ·rw [k];exact k5.pool (e4.trans (e3.trans (e2.trans e1)))
    rw [k];exact .inr ⟨j,rfl,kl⟩
   rw [k];exact .inr ⟨j,rfl,kl⟩
  rw [k];exact .inr ⟨j,rfl,kl⟩
 rw [k];exact .inr ⟨j,rfl,kl⟩
theorem split_cold {C:Int→Option Pg} {b b':Bt} (h:SubF C b.pool) {p x:Pg} {kk:Int} (hp:b.split p kk x= .ok b'):b'.pool=b.pool∧KB C b (cb C) ((cb C b).split p kk x) b':=by
 unfold Bt.split at hp ⊢;cases h1:b.take with
 |fail c o=>rw [h1] at hp;cases hp
 |ok q=>
 obtain ⟨id,b1⟩:=q;rw [h1] at hp;simp only [] at hp;obtain ⟨e1,k1⟩:=take_cold h h1;simp only [] at e1;have s1:SubF C b1.pool:=by rw [e1];exact h
 cases h2:b1.fill id x.level (x.ents.drop 4) (if x.level=0 then x.next else -1) with
 |fail c o=>rw [h2] at hp;cases hp
 |ok b2=>
 rw [h2] at hp;simp only [] at hp;obtain ⟨e2,k2⟩:=fill_cold s1 h2;have s2:SubF C b2.pool:=by rw [e2];exact s1
 cases h3:b2.doR {page:=x.id,kind:=6,slot:=4} with
 |fail c o=>rw [h3] at hp;cases hp
 |ok b3=>
 rw [h3] at hp;simp only [] at hp;obtain ⟨e3,k3⟩:=doR_cold s2 h3;have s3:SubF C b3.pool:=by rw [e3];exact s2
 have e30:=e3.trans (e2.trans e1);by_cases hl:x.level=0
 ·simp only [if_pos hl] at hp k2 ⊢;cases h4:b3.doR {page:=x.id,kind:=5,slot:=id} with
  |fail c o=>rw [h4] at hp;cases hp
  |ok b4=>
  rw [h4] at hp;simp only [] at hp;obtain ⟨e4,k4⟩:=doR_cold s3 h4;have s4:SubF C b4.pool:=by rw [e4];exact s3
  obtain ⟨e5,k5⟩:=doR_cold s4 hp;refine ⟨e5.trans (e4.trans e30), ?_⟩;rcases k1 with k|⟨j,k,kl⟩
  ·rw [k];simp only [cp];rcases k2.pool e1 with k|⟨j,k,kl⟩
   ·rw [k];simp only [];rcases k3.pool (e2.trans e1) with k|⟨j,k,kl⟩
    ·rw [k];simp only [];rcases k4.pool e30 with k|⟨j,k,kl⟩
     ·rw [k];exact k5.pool (e4.trans e30)
     rw [k];exact .inr ⟨j,rfl,kl⟩
    rw [k];exact .inr ⟨j,rfl,kl⟩
   rw [k];exact .inr ⟨j,rfl,kl⟩
  rw [k];exact .inr ⟨j,rfl,kl⟩
 simp only [if_neg hl] at hp k2 ⊢;obtain ⟨e5,k5⟩:=doR_cold s3 hp;refine ⟨e5.trans e30, ?_⟩;rcases k1 with k|⟨j,k,kl⟩
 ·rw [k];simp only [cp];rcases k2.pool e1 with k|⟨j,k,kl⟩
  ·rw [k];simp only [];rcases k3.pool (e2.trans e1) with k|⟨j,k,kl⟩
   ·rw [k];exact k5.pool e30
   rw [k];exact .inr ⟨j,rfl,kl⟩
  rw [k];exact .inr ⟨j,rfl,kl⟩
 rw [k];exact .inr ⟨j,rfl,kl⟩
theorem roomF_cold {C:Int→Option Pg} {key:Bs}: ∀(n:Nat) {b:Bt} {x:Pg} {p:Bt×Pg},SubF C b.pool→Bt.roomF key n b x= .ok p→p.1.pool=b.pool∧KB C b (cq C) (Bt.roomF key n (cb C b) x) p
 |0,b,x,p,h,hp=>by rw [Bt.roomF] at hp;cases hp
 |n+1,b,x,p,h,hp=>by
  rw [Bt.roomF] at hp;rw [Bt.roomF];by_cases hl:x.level=0
  ·rw [if_pos hl] at hp ⊢;injection hp with hp;subst hp;exact ⟨rfl, .inl rfl⟩
  rw [if_neg hl] at hp ⊢;cases ha:atP x (childP x key) with
  |fail c o=>rw [ha] at hp;cases hp
  |ok id=>
  rw [ha] at hp;simp only [] at hp ⊢;cases h1:b.page id with
  |fail c o=>rw [h1] at hp;cases hp
  |ok y=>
  rw [h1] at hp;simp only [] at hp;have k1:=page_cold h h1;by_cases h8:8≤y.ents.length
  ·simp only [if_pos h8] at hp;cases h2:b.split x (childP x key) y with
   |fail c o=>rw [h2] at hp;cases hp
   |ok b2=>
   rw [h2] at hp;simp only [] at hp;obtain ⟨e2,k2⟩:=split_cold h h2;have s2:SubF C b2.pool:=by rw [e2];exact h
   cases h3:b2.page x.id with
   |fail c o=>rw [h3] at hp;cases hp
   |ok x2=>
   rw [h3] at hp;simp only [] at hp;have k3:=page_cold s2 h3;obtain ⟨e4,k4⟩:=roomF_cold n s2 hp;refine ⟨e4.trans e2, ?_⟩;rcases k1 with k|⟨j,k,kl⟩
   ·rw [k];simp only [_root_.id,if_pos h8];rcases k2 with k|⟨j,k,kl⟩
    ·rw [k];simp only [];rcases k3.pool e2 with k|⟨j,k,kl⟩
     ·rw [k];exact k4.pool e2
     rw [k];exact .inr ⟨j,rfl,kl⟩
    rw [k];exact .inr ⟨j,rfl,kl⟩
   rw [k];exact .inr ⟨j,rfl,kl⟩
  simp only [if_neg h8] at hp;obtain ⟨e4,k4⟩:=roomF_cold n h hp;refine ⟨e4, ?_⟩;rcases k1 with k|⟨j,k,kl⟩
  ·rw [k];simp only [_root_.id,if_neg h8];exact k4
  rw [k];exact .inr ⟨j,rfl,kl⟩
theorem room_cold {C:Int→Option Pg} {b:Bt} {key:Bs} (h:SubF C b.pool) {p:Bt×Pg} (hp:b.room key= .ok p):p.1.pool=b.pool∧KB C b (cq C) ((cb C b).room key) p:=by
 unfold Bt.room at hp ⊢;cases h1:b.page 0 with
 |fail c o=>rw [h1] at hp;cases hp
 |ok x=>
 rw [h1] at hp;simp only [] at hp;have k1:=page_cold h h1;by_cases h8:8≤x.ents.length
 ·simp only [if_pos h8] at hp;cases h2:b.splitRoot x with
  |fail c o=>rw [h2] at hp;cases hp
  |ok b2=>
  rw [h2] at hp;simp only [] at hp;obtain ⟨e2,k2⟩:=splitRoot_cold h h2;have s2:SubF C b2.pool:=by rw [e2];exact h
  cases h3:b2.page 0 with
  |fail c o=>rw [h3] at hp;cases hp
  |ok x2=>
  rw [h3] at hp;simp only [] at hp;have k3:=page_cold s2 h3;obtain ⟨e4,k4⟩:=roomF_cold 34 s2 hp;refine ⟨e4.trans e2, ?_⟩;rcases k1 with k|⟨j,k,kl⟩
  ·rw [k];simp only [_root_.id,if_pos h8];rcases k2 with k|⟨j,k,kl⟩
   ·rw [k];simp only [];rcases k3.pool e2 with k|⟨j,k,kl⟩
    ·rw [k];exact k4.pool e2
    rw [k];exact .inr ⟨j,rfl,kl⟩
   rw [k];exact .inr ⟨j,rfl,kl⟩
  rw [k];exact .inr ⟨j,rfl,kl⟩
 simp only [if_neg h8] at hp;obtain ⟨e4,k4⟩:=roomF_cold 34 h hp;refine ⟨e4, ?_⟩;rcases k1 with k|⟨j,k,kl⟩
 ·rw [k];simp only [_root_.id,if_neg h8];exact k4
 rw [k];exact .inr ⟨j,rfl,kl⟩
theorem downF_cold {C:Int→Option Pg} {b:Bt} {key:Bs} (h:SubF C b.pool): ∀(n:Nat) (id:Int) (l:List Pg) (ks:List Nat) {r},b.downF key n id l ks= .ok r→KB C b _root_.id ((cb C b).downF key n id l ks) r
 |0,id,l,ks,r,hq=>by rw [Bt.downF] at hq;cases hq
 |n+1,id,l,ks,r,hq=>by
  rw [Bt.downF] at hq;rw [Bt.downF];cases hp:b.page id with
  |fail c o=>rw [hp] at hq;cases hq
  |ok x=>
   rw [hp] at hq;simp only [] at hq;rcases page_cold h hp with h1|⟨j,h1,h2⟩
   ·rw [h1];simp only [_root_.id];split at hq
    ·rename_i hl;rw [if_pos hl];exact .inl hq
    rename_i hl;rw [if_neg hl];cases ha:atP x (childP x key) with
    |fail c o=>rw [ha] at hq;cases hq
    |ok id'=>rw [ha] at hq;simp only [] at hq ⊢;exact downF_cold h n id' _ _ hq
   rw [h1];exact .inr ⟨j,rfl,h2⟩
theorem put_cold {C:Int→Option Pg} {b b':Bt} {key val:Bs} (h:SubF C b.pool) (hp:b.put key val= .ok b'):b'.pool=b.pool∧KB C b (cb C) ((cb C b).put key val) b':=by
 unfold Bt.put Bt.down at hp ⊢;split at hp
 ·cases hp
 rename_i hr;rw [if_neg hr];cases h1:b.downF key 17 0 [] [] with
 |fail c o=>rw [h1] at hp;cases hp
 |ok q=>
 obtain ⟨l,ks⟩:=q;rw [h1] at hp;simp only [] at hp;have k1:=downF_cold h _ _ _ _ h1;by_cases hf:(findP (lastPg l).ents key).2=true
 ·simp only [if_pos hf] at hp;obtain ⟨e2,k2⟩:=doR_cold h hp;refine ⟨e2, ?_⟩;rcases k1 with k|⟨j,k,kl⟩
  ·rw [k];simp only [_root_.id,if_pos hf];exact k2
  rw [k];exact .inr ⟨j,rfl,kl⟩
 simp only [if_neg hf] at hp;cases h2:b.room key with
 |fail c o=>rw [h2] at hp;cases hp
 |ok q=>
 obtain ⟨b2,y⟩:=q;rw [h2] at hp;simp only [] at hp;obtain ⟨e2,k2⟩:=room_cold h h2;simp only [] at e2;obtain ⟨e3,k3⟩:=doR_cold (b:=b2) (by rw [e2];exact h) hp;refine ⟨e3.trans e2, ?_⟩;rcases k1 with k|⟨j,k,kl⟩
 ·rw [k];simp only [_root_.id,if_neg hf];rcases k2 with k|⟨j,k,kl⟩
  ·rw [k];exact k3.pool e2
  rw [k];exact .inr ⟨j,rfl,kl⟩
 rw [k];exact .inr ⟨j,rfl,kl⟩
theorem join_cold {C:Int→Option Pg} {b b':Bt} {p:Pg} {k0:Int} (h:SubF C b.pool) (hp:b.join p k0= .ok b'):b'.pool=b.pool∧KB C b (cb C) ((cb C b).join p k0) b':=by
 unfold Bt.join at hp ⊢;by_cases h2:p.ents.length<2
 ·rw [if_pos h2] at hp ⊢;injection hp with hp;subst hp;exact ⟨rfl, .inl rfl⟩
 rw [if_neg h2] at hp ⊢;simp only [] at hp ⊢;generalize (if k0+1=(p.ents.length:Int) then k0 - 1 else k0)=kk at hp ⊢;cases ha:atP p kk with
 |fail c o=>rw [ha] at hp;cases hp
 |ok i=>
 rw [ha] at hp;simp only [] at hp ⊢;cases h3:b.page i with
 |fail c o=>rw [h3] at hp;cases hp
 |ok x=>
 rw [h3] at hp;simp only [] at hp;have k3:=page_cold h h3;cases hb:atP p (kk+1) with
 |fail c o=>rw [hb] at hp;cases hp
 |ok jj=>
 rw [hb] at hp;simp only [] at hp;cases h4:b.page jj with
 |fail c o=>rw [h4] at hp;cases hp
 |ok y=>
 rw [h4] at hp;simp only [] at hp;have k4:=page_cold h h4;by_cases h6:6<x.ents.length+y.ents.length
 ·rw [if_pos h6] at hp;injection hp with hp;subst hp
  refine ⟨rfl, ?_⟩;rcases k3 with k|⟨j,k,kl⟩
  ·rw [k];simp only [_root_.id];rcases k4 with k|⟨j,k,kl⟩
   ·rw [k];simp only [_root_.id];rw [if_pos h6];exact .inl rfl
   rw [k];exact .inr ⟨j,rfl,kl⟩
  rw [k];exact .inr ⟨j,rfl,kl⟩
 rw [if_neg h6] at hp;cases h5:b.all (insR x.id x.ents.length y.ents) with
 |fail c o=>rw [h5] at hp;cases hp
 |ok b5=>
 rw [h5] at hp;simp only [] at hp;obtain ⟨e5,k5⟩:=all_cold _ h h5;have s5:SubF C b5.pool:=by rw [e5];exact h
 cases h7:b5.all [{page:=x.id,kind:=5,slot:=if y.next= -1 then 256 else y.next},{page:=p.id,kind:=3,slot:=kk+1}] with
 |fail c o=>rw [h7] at hp;cases hp
 |ok b7=>
 rw [h7] at hp;simp only [] at hp;obtain ⟨e7,k7⟩:=all_cold _ s5 h7;obtain ⟨e8,k8⟩:=free_cold (b:=b7) (by rw [e7];exact s5) hp;refine ⟨e8.trans (e7.trans e5), ?_⟩;rcases k3 with k|⟨j,k,kl⟩
 ·rw [k];simp only [_root_.id];rcases k4 with k|⟨j,k,kl⟩
  ·rw [k];simp only [_root_.id];rw [if_neg h6];rcases k5 with k|⟨j,k,kl⟩
   ·rw [k];simp only [];rcases k7.pool e5 with k|⟨j,k,kl⟩
    ·rw [k];exact k8.pool (e7.trans e5)
    rw [k];exact .inr ⟨j,rfl,kl⟩
   rw [k];exact .inr ⟨j,rfl,kl⟩
  rw [k];exact .inr ⟨j,rfl,kl⟩
 rw [k];exact .inr ⟨j,rfl,kl⟩
theorem sinkF_cold {C:Int→Option Pg}: ∀(n:Nat) {b b':Bt},SubF C b.pool→Bt.sinkF n b= .ok b'→b'.pool=b.pool∧KB C b (cb C) (Bt.sinkF n (cb C b)) b'
 |0,b,b',h,hp=>by rw [Bt.sinkF] at hp;injection hp with hp;subst hp;exact ⟨rfl, .inl rfl⟩
 |n+1,b,b',h,hp=>by
  rw [Bt.sinkF] at hp;rw [Bt.sinkF];cases h1:b.page 0 with
  |fail c o=>rw [h1] at hp;cases hp
  |ok x=>
  rw [h1] at hp;simp only [] at hp;have k1:=page_cold h h1;by_cases hx:x.level=0∨x.ents.length≠1
  ·rw [if_pos hx] at hp;injection hp with hp;subst hp
   refine ⟨rfl, ?_⟩;rcases k1 with k|⟨j,k,kl⟩
   ·rw [k];simp only [_root_.id];rw [if_pos hx];exact .inl rfl
   rw [k];exact .inr ⟨j,rfl,kl⟩
  rw [if_neg hx] at hp;cases ha:atP x 0 with
  |fail c o=>rw [ha] at hp;cases hp
  |ok id=>
  rw [ha] at hp;simp only [] at hp;cases h2:b.page id with
  |fail c o=>rw [h2] at hp;cases hp
  |ok y=>
  rw [h2] at hp;simp only [] at hp;have k2:=page_cold h h2;cases h3:b.fill 0 y.level y.ents (-1) with
  |fail c o=>rw [h3] at hp;cases hp
  |ok b3=>
  rw [h3] at hp;simp only [] at hp;obtain ⟨e3,k3⟩:=fill_cold h h3;have s3:SubF C b3.pool:=by rw [e3];exact h
  cases h4:b3.free id with
  |fail c o=>rw [h4] at hp;cases hp
  |ok b4=>
  rw [h4] at hp;simp only [] at hp;obtain ⟨e4,k4⟩:=free_cold s3 h4;obtain ⟨e5,k5⟩:=sinkF_cold n (b:=b4) (by rw [e4];exact s3) hp;refine ⟨e5.trans (e4.trans e3), ?_⟩;rcases k1 with k|⟨j,k,kl⟩
  ·rw [k];simp only [_root_.id];rw [if_neg hx,ha];simp only [];rcases k2 with k|⟨j,k,kl⟩
   ·rw [k];simp only [_root_.id];rcases k3 with k|⟨j,k,kl⟩
    ·rw [k];simp only [];rcases k4.pool e3 with k|⟨j,k,kl⟩
     ·rw [k];exact k5.pool (e4.trans e3)
     rw [k];exact .inr ⟨j,rfl,kl⟩
    rw [k];exact .inr ⟨j,rfl,kl⟩
   rw [k];exact .inr ⟨j,rfl,kl⟩
  rw [k];exact .inr ⟨j,rfl,kl⟩
theorem delete_cold {C:Int→Option Pg} {b:Bt} {key:Bs} {p:Bool×Bt} (h:SubF C b.pool) (hp:b.delete key= .ok p):p.2.pool=b.pool∧KB C b (cp C) ((cb C b).delete key) p:=by
 unfold Bt.delete Bt.down at hp ⊢;split at hp
 ·cases hp
 rename_i hr;rw [if_neg hr];cases h1:b.downF key 17 0 [] [] with
 |fail c o=>rw [h1] at hp;cases hp
 |ok q=>
 obtain ⟨l,ks⟩:=q;rw [h1] at hp;simp only [] at hp;have k1:=downF_cold h _ _ _ _ h1;by_cases hf:(findP (lastPg l).ents key).2=false
 ·simp only [if_pos hf] at hp;injection hp with hp;subst hp
  refine ⟨rfl, ?_⟩;rcases k1 with k|⟨j,k,kl⟩
  ·rw [k];simp only [_root_.id,if_pos hf];exact .inl rfl
  rw [k];exact .inr ⟨j,rfl,kl⟩
 simp only [if_neg hf] at hp;cases h2:b.doR {page:=(lastPg l).id,kind:=3,slot:=(findP (lastPg l).ents key).1} with
 |fail c o=>rw [h2] at hp;cases hp
 |ok b2=>
 rw [h2] at hp;simp only [] at hp;obtain ⟨e2,k2⟩:=doR_cold h h2;have s2:SubF C b2.pool:=by rw [e2];exact h
 by_cases hj:1<l.length∧((lastPg l).ents.length:Int) - 1≤2
 ·simp only [if_pos hj] at hp;cases h3:b2.join (l.getD (l.length - 2) (newPg 0)) (ks.getLastD 0:Nat) with
  |fail c o=>rw [h3] at hp;cases hp
  |ok b3=>
  rw [h3] at hp;simp only [] at hp;obtain ⟨e3,k3⟩:=join_cold s2 h3;have s3:SubF C b3.pool:=by rw [e3];exact s2
  cases h4:b3.sink with
  |fail c o=>rw [h4] at hp;cases hp
  |ok b4=>
  rw [h4] at hp;simp only [] at hp;injection hp with hp;subst hp
  obtain ⟨e4,k4⟩:=sinkF_cold 17 s3 h4;refine ⟨e4.trans (e3.trans e2), ?_⟩;rcases k1 with k|⟨j,k,kl⟩
  ·rw [k];simp only [_root_.id,if_neg hf];rcases k2 with k|⟨j,k,kl⟩
   ·rw [k];simp only [if_pos hj];rcases k3.pool e2 with k|⟨j,k,kl⟩
    ·rw [k];simp only [Bt.sink];rcases k4.pool (e3.trans e2) with k|⟨j,k,kl⟩
     ·rw [k];exact .inl rfl
     rw [k];exact .inr ⟨j,rfl,kl⟩
    rw [k];exact .inr ⟨j,rfl,kl⟩
   rw [k];exact .inr ⟨j,rfl,kl⟩
  rw [k];exact .inr ⟨j,rfl,kl⟩
 simp only [if_neg hj] at hp;cases h4:b2.sink with
 |fail c o=>rw [h4] at hp;cases hp
 |ok b4=>
 rw [h4] at hp;simp only [] at hp;injection hp with hp;subst hp
 obtain ⟨e4,k4⟩:=sinkF_cold 17 s2 h4;refine ⟨e4.trans e2, ?_⟩;rcases k1 with k|⟨j,k,kl⟩
 ·rw [k];simp only [_root_.id,if_neg hf];rcases k2 with k|⟨j,k,kl⟩
  ·rw [k];simp only [if_neg hj,Bt.sink];rcases k4.pool e2 with k|⟨j,k,kl⟩
   ·rw [k];exact .inl rfl
   rw [k];exact .inr ⟨j,rfl,kl⟩
  rw [k];exact .inr ⟨j,rfl,kl⟩
 rw [k];exact .inr ⟨j,rfl,kl⟩
end Go.Proofs.YtkknmpkcfpdllaaGreatDoor.B
