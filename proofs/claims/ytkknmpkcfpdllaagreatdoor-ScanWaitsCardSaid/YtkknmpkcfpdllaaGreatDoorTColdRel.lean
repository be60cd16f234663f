/- What functions of the program compute, each function once: steps over the model, and the plain law of it. -/
import Derived.Test.YtkknmpkcfpdllaaGreatDoorTTreeLaid
import Derived.Test.YtkknmpkcfpdllaaGreatDoorTFirst
import Derived.Test.YtkknmpkcfpdllaaGreatDoorSOrow
import Derived.Test.YtkknmpkcfpdllaaGreatDoorTTreeChain
import Derived.Test.YtkknmpkcfpdllaaGreatDoorTTree6
import Derived.Test.YtkknmpkcfpdllaaGreatDoorTMadeP
import Derived.Test.YtkknmpkcfpdllaaGreatDoorTScanRel
import Derived.Test.YtkknmpkcfpdllaaGreatDoorTMade2
namespace Go.Proofs.YtkknmpkcfpdllaaGreatDoor.B
open Go Go.Proofs
set_option linter.unusedVariables false
set_option linter.unusedSimpArgs false
structure Ck where
 seen:List Int
 leaves:List Pg
 keys:Int
section
variable {b:Bt} {f:Nat} {id level:Int} {low:Bs} {high:Option Bs} {c:Ck} {x:Pg}
end
structure CkOk (c:Ck):Prop where
 nodup:c.seen.Nodup
 range: ∀i∈c.seen,0≤i∧i<256
 leaves:c.leaves.length≤c.seen.length
 keys0:0≤c.keys
 keys1:c.keys≤8*(c.leaves.length:Nat)
def chainOk:List Pg→Bool
 | []=>true
 | [x]=>decide (x.next= -1)
 |x::y::r=>decide (x.next=y.id) && chainOk (y::r)
theorem CkOk.put {c:Ck} {id:Int} (h:CkOk c) (hn:id ∉ c.seen) (h0:0≤id∧id<256):CkOk ⟨id::c.seen,c.leaves,c.keys⟩:=
 ⟨List.nodup_cons.2 ⟨hn,h.nodup⟩,fun i hi=>by
  rcases List.mem_cons.1 hi with rfl|hi
  ·exact h0
  exact h.range i hi,by have:=h.leaves;simp only [List.length_cons];omega,h.keys0,h.keys1⟩
theorem CkOk.leaf {c:Ck} {id:Int} {x:Pg} (h:CkOk c) (hn:id ∉ c.seen) (h0:0≤id∧id<256) (hx:x.ents.length≤8):CkOk ⟨id::c.seen,c.leaves++ [x],c.keys+x.ents.length⟩:=
 ⟨(h.put hn h0).nodup,(h.put hn h0).range,by have:=h.leaves;simp only [List.length_cons,List.length_append,List.length_nil];omega,by have:=h.keys0;simp only [];omega,by have:=h.keys1;simp only [List.length_append,List.length_cons,List.length_nil];omega⟩
def HighV (D:Sto) (v:Value) (high:Option Bs):Prop:= ∃A n c,v= .slice A n c∧RB D v (high.getD [])∧(A=none↔high=none)
theorem HighV.mono {D D':Sto} {v:Value} {high:Option Bs} (h:HighV D v high) (hD:Le D D'):HighV D' v high:=by obtain ⟨A,n,c,h1,h2,h3⟩:=h;exact ⟨A,n,c,h1,h2.mono hD,h3⟩
theorem HighV.none (D:Sto):HighV D (.slice Option.none 0 0) Option.none:=⟨_,_,_,rfl,RB.nil D,by simp⟩
theorem HighV.key {D:Sto} {v:Value} {k:Bs} (h:RB D v k) (hk:k≠ []):HighV D v (Option.some k):=by
 obtain ⟨A,c,rfl,hc,hlt,hA,hat⟩:=h;refine ⟨A,_,c,rfl,⟨A,c,rfl,hc,hlt,hA,hat⟩, ?_⟩;cases A with
 |none=>
  have:=hA rfl;have hl:k.length=0:=by omega
  exact absurd (List.length_eq_zero_iff.1 hl) hk
 |some a=>simp
set_option maxRecDepth 20000
set_option maxHeartbeats 8000000
def LC:List Pg→Int→Int→Prop
 | [],_,_=>False
 | [x],fl,nx=>x.id=fl∧x.next=nx
 |x::y::r,fl,nx=>x.id=fl∧x.next=y.id∧LC (y::r) y.id nx
theorem LC.append {L2:List Pg} {md nx:Int} (h2:LC L2 md nx): ∀(L1:List Pg) {fl:Int},LC L1 fl md→LC (L1++L2) fl nx
 | [],_,h=>h.elim
 | [x],fl,h=>by
  cases L2 with
  |nil=>exact h2.elim
  |cons y r=>
   have hy:y.id=md:=by cases r<;>exact h2.1
   exact ⟨h.1,by rw [h.2,hy],by rw [hy];exact h2⟩
 |x::y::r,fl,h=>⟨h.1,h.2.1,LC.append h2 (y::r) h.2.2⟩
theorem LC.chain: ∀(L:List Pg) {fl:Int},LC L fl (-1)→chainOk L=true
 | [],_,h=>h.elim
 | [x],_,h=>by simp [chainOk,h.2]
 |x::y::r,_,h=>by rw [chainOk,LC.chain (y::r) h.2.2,h.2.1];simp
theorem CkOk.start:CkOk ⟨[1], [],0⟩:=⟨by simp,by intro i hi;simp only [List.mem_cons,List.not_mem_nil,or_false] at hi;omega,by simp,by simp,by simp⟩
structure ColdOk (C:Pl) (kv:Ens) (ids:List Int):Prop where
 sorted:Sorted kv
 from9: ∀key above,key.length≤32→(newBt C).from_ key above= .ok (fromKv key above kv)∨ ∃j,(newBt C).from_ key above= .fail 113 (some j)∧C.f j=none∧j∈ids
 len:kv.length≤2040
 keys: ∀e∈kv,e.1.length≤32
theorem ColdOk.of {P C:Pl} {kv:Ens} {ids:List Int} (hO:PoolOk P kv) (hS:Stands P kv ids) (hC: ∀id x,C.f id=some x→P.f id=some x):ColdOk C kv ids:=
 ⟨hO.sorted,hS.2.2 C hC,hO.len,hO.keys⟩
theorem ColdOk.next {C:Pl} {kv:Ens} {ids:List Int} (h:ColdOk C kv ids) {key:Bs} (hk:key.length≤32):(newBt C).from_ key false= .ok (kv[fromK key false kv]?)∨ ∃j,(newBt C).from_ key false= .fail 113 (some j)∧C.f j=none∧j∈ids:=by have:=h.from9 key false hk;rwa [fromKv_at kv h.sorted] at this
theorem ColdOk.above {C:Pl} {kv:Ens} {ids:List Int} (h:ColdOk C kv ids) {j:Nat} {e:Bs×Bs} (he:kv[j]? =some e):(newBt C).from_ e.1 true= .ok (kv[j+1]?)∨ ∃j,(newBt C).from_ e.1 true= .fail 113 (some j)∧C.f j=none∧j∈ids:=by have:=h.from9 e.1 true (h.keys e (List.mem_of_getElem? he));rwa [from_next h.sorted he] at this
theorem Next_cold {w0 w:World} {D:Sto} {ss:List Seg} {sb sp:Seg} {vb vp:Value} {b:Bt} {P:Pl} (hI:Inv w0 D (sb::sp::ss) w) {ad:Nat→Addr} (hS:TSents D ad) (hB:BatchS D vb vp b sb) (hP:PoolS D vp P sp) (hpool:b.pool=P.f) {vk:Value} {key:Bs} (hk:RB D vk key) {res:Option (Bs×Bs)} {ids:List Int}
  (hok:b.from_ key false= .ok res∨ ∃j,b.from_ key false= .fail 113 (some j)∧P.f j=none∧j∈ids) :
  Calls Tryz.prog 127 #[vb,vk] w (Ret fun r w'=>(∃D' k v sb' sp',Le D D'∧r= .tuple #[.agg #[k,v], .bool res.isSome, .nilIface]∧RB D' k (res.getD ([], [])).1∧RB D' v (res.getD ([], [])).2∧PoolS D' vp P sp'∧Inv w0 D' (sb'::sp'::ss) w')∨
   ∃j D' sb' sp',P.f j=none∧j∈ids∧r= .tuple #[.agg #[.slice none 0 0, .slice none 0 0], .bool false,errV ad 113]∧Le D D'∧PoolS D' vp (P.want j) sp'∧Inv w0 D' (sb'::sp'::ss) w'):=by
 refine (Next_spec hI.merge hS (TreeS.join hB hP hpool) hk).mono fun e w' h=> ?_;obtain ⟨r,he,h⟩:=h;refine ⟨r,he, ?_⟩;rcases h with ⟨res',h1,D',k,v,hD,rfl,hk',hv',hT,hI'⟩|⟨c,o,h1,rfl,D',s',hD,hT,hI'⟩
 ·rcases hok with hok|⟨j,hok,_⟩
  ·rw [hok] at h1;injection h1 with h1;subst h1
   obtain ⟨sb',sp',hs,hB',hP',_⟩:=hT;rw [hs] at hI';exact .inl ⟨D',k,v,sb',sp',hD,rfl,hk',hv',hP',hI'.parted⟩
  rw [hok] at h1;cases h1
 rcases hok with hok|⟨j,hok,h2,h3⟩
 ·rw [hok] at h1;cases h1
 rw [hok] at h1;injection h1 with h1 h4;subst h1;subst h4
 obtain ⟨sb',sp',rfl,hB',hP',_⟩:=hT;exact .inr ⟨j,D',sb',sp',h2,h3,rfl,hD,hP',hI'.parted⟩
theorem Above_cold {w0 w:World} {D:Sto} {ss:List Seg} {sb sp:Seg} {vb vp:Value} {b:Bt} {P:Pl} (hI:Inv w0 D (sb::sp::ss) w) {ad:Nat→Addr} (hS:TSents D ad) (hB:BatchS D vb vp b sb) (hP:PoolS D vp P sp) (hpool:b.pool=P.f) {vk:Value} {key:Bs} (hk:RB D vk key) {res:Option (Bs×Bs)} {ids:List Int}
  (hok:b.from_ key true= .ok res∨ ∃j,b.from_ key true= .fail 113 (some j)∧P.f j=none∧j∈ids) :
  Calls Tryz.prog 174 #[vb,vk] w (Ret fun r w'=>(∃D' k v sb' sp',Le D D'∧r= .tuple #[.agg #[k,v], .bool res.isSome, .nilIface]∧RB D' k (res.getD ([], [])).1∧RB D' v (res.getD ([], [])).2∧PoolS D' vp P sp'∧Inv w0 D' (sb'::sp'::ss) w')∨
   ∃j D' sb' sp',P.f j=none∧j∈ids∧r= .tuple #[.agg #[.slice none 0 0, .slice none 0 0], .bool false,errV ad 113]∧Le D D'∧PoolS D' vp (P.want j) sp'∧Inv w0 D' (sb'::sp'::ss) w'):=by
 refine (Above_spec hI.merge hS (TreeS.join hB hP hpool) hk).mono fun e w' h=> ?_;obtain ⟨r,he,h⟩:=h;refine ⟨r,he, ?_⟩;rcases h with ⟨res',h1,D',k,v,hD,rfl,hk',hv',hT,hI'⟩|⟨c,o,h1,rfl,D',s',hD,hT,hI'⟩
 ·rcases hok with hok|⟨j,hok,_⟩
  ·rw [hok] at h1;injection h1 with h1;subst h1
   obtain ⟨sb',sp',hs,hB',hP',_⟩:=hT;rw [hs] at hI';exact .inl ⟨D',k,v,sb',sp',hD,rfl,hk',hv',hP',hI'.parted⟩
  rw [hok] at h1;cases h1
 rcases hok with hok|⟨j,hok,h2,h3⟩
 ·rw [hok] at h1;cases h1
 rw [hok] at h1;injection h1 with h1 h4;subst h1;subst h4
 obtain ⟨sb',sp',rfl,hB',hP',_⟩:=hT;exact .inr ⟨j,D',sb',sp',h2,h3,rfl,hD,hP',hI'.parted⟩
structure RoundsC (w0:World) (D0:Sto) (vp:Value) (C:Pl) (ad:Nat→Addr) (ids:List Int) (l:Nat) (kv:Ens) (s:Nat) (told:Bs→Bool) (J Jx Je:Nat→Sto→List Seg→Prop):Prop where
 ok:Rounds w0 D0 vp C l kv s told J Jx
 err: ∀i D ms sp rest w j,C.f j=none→j∈ids→Le D0 D→J i D ms→PoolS D vp (C.want j) sp→Inv w0 D (sp::(ms++rest)) w→
  YieldOk l #[.agg #[.slice none 0 0, .slice none 0 0],errV ad 113] w fun en w'=> ∃b D' ms' sp',en= .returned (.bool b)∧Le D D'∧Je i D' ms'∧PoolS D' vp (C.want j) sp'∧Inv w0 D' (sp'::(ms'++rest)) w'
def IterPostC (w0:World) (D:Sto) (ss:List Seg) (vp:Value) (C:Pl) (ids:List Int) (kv:Ens) (s:Nat) (told:Bs→Bool) (J Jx Je:Nat→Sto→List Seg→Prop) (w':World):Prop:=
 IterPost w0 D ss vp C kv s told J Jx w'∨ ∃i j D' ms' sp',C.f j=none∧j∈ids∧Le D D'∧Je i D' ms'∧PoolS D' vp (C.want j) sp'∧Inv w0 D' (sp'::(ms'++ss)) w'
def SeqOkC (D:Sto) (v vp:Value) (C:Pl) (ad:Nat→Addr) (ids:List Int) (kv:Ens) (s:Nat) (told:Bs→Bool):Prop:= ∃f cap,v= .func (.func f) #[] cap∧enters Tryz.prog f=true∧
 ∀(w0 w:World) (D':Sto) (ms ss:List Seg) (sp:Seg) (l:Nat) (J Jx Je:Nat→Sto→List Seg→Prop),Le D D'→Inv w0 D' (sp::(ms++ss)) w→PoolS D' vp C sp→RoundsC w0 D' vp C ad ids l kv s told J Jx Je→J 0 D' ms→
  Calls Tryz.prog f (#[.func (.yield l) #[] #[]]++cap) w (Ret fun _ w'=>IterPostC w0 D' ss vp C ids kv s told J Jx Je w')
end Go.Proofs.YtkknmpkcfpdllaaGreatDoor.B
