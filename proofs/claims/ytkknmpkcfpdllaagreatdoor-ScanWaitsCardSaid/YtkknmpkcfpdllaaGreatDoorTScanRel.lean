/- What functions of the program compute, each function once: steps over the model, and the plain law of it. -/
import Derived.Test.YtkknmpkcfpdllaaGreatDoorTFirst
import Derived.Test.YtkknmpkcfpdllaaGreatDoorTTreeLawA
import Derived.Test.YtkknmpkcfpdllaaGreatDoorSIter
import Derived.Test.YtkknmpkcfpdllaaGreatDoorTTreeChain
namespace Go.Proofs.YtkknmpkcfpdllaaGreatDoor.B
open Go Go.Proofs
set_option linter.unusedVariables false
set_option linter.unusedSimpArgs false
theorem Inv.parted {w0 w:World} {D:Sto} {ss:List Seg} {s1 s2:Seg} (h:Inv w0 D ((s1++s2)::ss) w):Inv w0 D (s1::s2::ss) w:=h.perm (List.Perm.of_eq (by simp))
theorem BPut_ok {w0 w:World} {D:Sto} {ss:List Seg} {sb sp:Seg} {vb vp:Value} {b b':Bt} {P:Pl} (hI:Inv w0 D (sb::sp::ss) w) {ad:Nat→Addr} (hS:TSents D ad) (hB:BatchS D vb vp b sb) (hP:PoolS D vp P sp) (hpool:b.pool=P.f) {vk vv:Value} {key val:Bs} (hk:RB D vk key) (hv:RB D vv val) (hlen:b.recs.length≤1000000000 - 8000) (hok:b.put key val= .ok b') :
  Calls Tryz.prog 21 #[vb,vk,vv] w (Ret fun r w'=>r= .nilIface∧ ∃D' sb' sp',Le D D'∧BatchS D' vb vp b' sb'∧PoolS D' vp P sp'∧Inv w0 D' (sb'::sp'::ss) w'):=by
 refine (BPut_spec hI.merge hS (TreeS.join hB hP hpool) hk hv hlen).mono fun e w' h=> ?_;obtain ⟨r,he,h⟩:=h;refine ⟨r,he, ?_⟩;rcases h with ⟨b1,h1,rfl,D',s',hD,hT,hI'⟩|⟨c,o,h1,_⟩
 ·rw [hok] at h1;injection h1 with h1;subst h1
  obtain ⟨sb',sp',rfl,hB',hP',_⟩:=hT;exact ⟨rfl,D',sb',sp',hD,hB',hP',hI'.parted⟩
 rw [hok] at h1;cases h1
theorem Redo_ok {w0 w:World} {D:Sto} {ss:List Seg} {sb sp:Seg} {vb vp:Value} {b:Bt} {P:Pl} (hI:Inv w0 D (sb::sp::ss) w) {ad:Nat→Addr} (hS:TSents D ad) (hB:BatchS D vb vp b sb) (hP:PoolS D vp P sp) (hpool:b.pool=P.f) (hlen:b.recs.length≤1000000000) :
  Calls Tryz.prog 24 #[vb] w (Ret fun r w'=> ∃D' sb' sp',Le D D'∧DR 10 RcR D' r b.recs∧BatchS D' vb vp b sb'∧PoolS D' vp P sp'∧Inv w0 D' (sb'::sp'::ss) w'):=by
 refine (Redo_spec hI.merge hS (TreeS.join hB hP hpool) hlen).mono fun e w' h=> ?_;obtain ⟨r,he,D',hD,hI',hr,hT⟩:=h;refine ⟨r,he, ?_⟩;obtain ⟨sb',sp',hs,hB',hP',_⟩:=hT;rw [hs] at hI';exact ⟨D',sb',sp',hD,hr,hB',hP',hI'.parted⟩
theorem Next_ok {w0 w:World} {D:Sto} {ss:List Seg} {sb sp:Seg} {vb vp:Value} {b:Bt} {P:Pl} (hI:Inv w0 D (sb::sp::ss) w) {ad:Nat→Addr} (hS:TSents D ad) (hB:BatchS D vb vp b sb) (hP:PoolS D vp P sp) (hpool:b.pool=P.f) {vk:Value} {key:Bs} (hk:RB D vk key) {res:Option (Bs×Bs)} (hok:b.from_ key false= .ok res) :
  Calls Tryz.prog 127 #[vb,vk] w (Ret fun r w'=> ∃D' k v sb' sp',Le D D'∧r= .tuple #[.agg #[k,v], .bool res.isSome, .nilIface]∧RB D' k (res.getD ([], [])).1∧RB D' v (res.getD ([], [])).2∧PoolS D' vp P sp'∧Inv w0 D' (sb'::sp'::ss) w'):=by
 refine (Next_spec hI.merge hS (TreeS.join hB hP hpool) hk).mono fun e w' h=> ?_;obtain ⟨r,he,h⟩:=h;refine ⟨r,he, ?_⟩;rcases h with ⟨res',h1,D',k,v,hD,rfl,hk',hv',hT,hI'⟩|⟨c,o,h1,_⟩
 ·rw [hok] at h1;injection h1 with h1;subst h1
  obtain ⟨sb',sp',hs,hB',hP',_⟩:=hT;rw [hs] at hI';exact ⟨D',k,v,sb',sp',hD,rfl,hk',hv',hP',hI'.parted⟩
 rw [hok] at h1;cases h1
theorem Above_ok {w0 w:World} {D:Sto} {ss:List Seg} {sb sp:Seg} {vb vp:Value} {b:Bt} {P:Pl} (hI:Inv w0 D (sb::sp::ss) w) {ad:Nat→Addr} (hS:TSents D ad) (hB:BatchS D vb vp b sb) (hP:PoolS D vp P sp) (hpool:b.pool=P.f) {vk:Value} {key:Bs} (hk:RB D vk key) {res:Option (Bs×Bs)} (hok:b.from_ key true= .ok res) :
  Calls Tryz.prog 174 #[vb,vk] w (Ret fun r w'=> ∃D' k v sb' sp',Le D D'∧r= .tuple #[.agg #[k,v], .bool res.isSome, .nilIface]∧RB D' k (res.getD ([], [])).1∧RB D' v (res.getD ([], [])).2∧PoolS D' vp P sp'∧Inv w0 D' (sb'::sp'::ss) w'):=by
 refine (Above_spec hI.merge hS (TreeS.join hB hP hpool) hk).mono fun e w' h=> ?_;obtain ⟨r,he,h⟩:=h;refine ⟨r,he, ?_⟩;rcases h with ⟨res',h1,D',k,v,hD,rfl,hk',hv',hT,hI'⟩|⟨c,o,h1,_⟩
 ·rw [hok] at h1;injection h1 with h1;subst h1
  obtain ⟨sb',sp',hs,hB',hP',_⟩:=hT;rw [hs] at hI';exact ⟨D',k,v,sb',sp',hD,rfl,hk',hv',hP',hI'.parted⟩
 rw [hok] at h1;cases h1
def ToldOk (D:Sto) (vt:Value) (told:Bs→Bool):Prop:= ∃f cap,vt= .func (.func f) #[] cap∧enters Tryz.prog f=true∧
 ∀(w0 w:World) (D':Sto) (ss:List Seg) (vk:Value) (key:Bs),Le D D'→Inv w0 D' ss w→RB D' vk key→key.length≤100000→Calls Tryz.prog f (#[]++ #[vk]++cap) w (Ret fun r w'=>(r= .bool true∧told key=true∧Inv w0 D' ss w')∨(r= .bool false∧ ¬told key=true∧Inv w0 D' ss w'))
theorem ToldOk.mono {D D':Sto} {vt:Value} {told:Bs→Bool} (h:ToldOk D vt told) (hD:Le D D'):ToldOk D' vt told:=by obtain ⟨f,cap,h1,h2,h3⟩:=h;exact ⟨f,cap,h1,h2,fun w0 w D2 ss vk key hD2=>h3 w0 w D2 ss vk key (hD.trans hD2)⟩
def YieldOk (l:Nat) (vs:Array Value) (w:World) (R:Ending→World→Prop):Prop:= ∃r,w.heap[l]? =some (.loop r)∧vs.size=r.params.size∧RoundAt Tryz.prog l r vs w R
structure Rounds (w0:World) (D0:Sto) (vp:Value) (P:Pl) (l:Nat) (kv:Ens) (s:Nat) (told:Bs→Bool) (J Jx:Nat→Sto→List Seg→Prop):Prop where
 mono: ∀i D D' ms,Le D D'→J i D ms→J i D' ms
 round: ∀i e D ms sp rest w vk vv,kv[s+i]? =some e→told e.1=true→Le D0 D→J i D ms→PoolS D vp P sp→RB D vk e.1→RB D vv e.2→Inv w0 D (sp::(ms++rest)) w→
  YieldOk l #[.agg #[vk,vv], .nilIface] w fun en w'=> ∃b D' ms' sp',en= .returned (.bool b)∧Le D D'∧(b=true→J (i+1) D' ms')∧(b=false→Jx (i+1) D' ms')∧PoolS D' vp P sp'∧Inv w0 D' (sp'::(ms'++rest)) w'
theorem Rounds.later {w0:World} {D0 D1:Sto} {vp:Value} {P:Pl} {l:Nat} {kv:Ens} {s:Nat} {told:Bs→Bool} {J Jx:Nat→Sto→List Seg→Prop} (h:Rounds w0 D0 vp P l kv s told J Jx) (hD:Le D0 D1):Rounds w0 D1 vp P l kv s told J Jx:=
 ⟨h.mono,fun i e D ms sp rest w vk vv h1 h2 h3=>h.round i e D ms sp rest w vk vv h1 h2 (hD.trans h3)⟩
def Done (kv:Ens) (s:Nat) (told:Bs→Bool) (i:Nat):Prop:=(∀j,j<i→ ∃x,kv[s+j]? =some x∧told x.1=true)∧ ∀x,kv[s+i]? =some x→ ¬told x.1=true
def IterPost (w0:World) (D:Sto) (ss:List Seg) (vp:Value) (P:Pl) (kv:Ens) (s:Nat) (told:Bs→Bool) (J Jx:Nat→Sto→List Seg→Prop) (w':World):Prop:=
 ∃i D' ms' sp',Le D D'∧((J i D' ms'∧Done kv s told i)∨Jx i D' ms')∧PoolS D' vp P sp'∧Inv w0 D' (sp'::(ms'++ss)) w'
def SeqOk (D:Sto) (v vp:Value) (P:Pl) (kv:Ens) (s:Nat) (told:Bs→Bool):Prop:= ∃f cap,v= .func (.func f) #[] cap∧enters Tryz.prog f=true∧
 ∀(w0 w:World) (D':Sto) (ms ss:List Seg) (sp:Seg) (l:Nat) (J Jx:Nat→Sto→List Seg→Prop),Le D D'→Inv w0 D' (sp::(ms++ss)) w→PoolS D' vp P sp→Rounds w0 D' vp P l kv s told J Jx→J 0 D' ms→
  Calls Tryz.prog f (#[.func (.yield l) #[] #[]]++cap) w (Ret fun _ w'=>IterPost w0 D' ss vp P kv s told J Jx w')
theorem SeqOk.mono {D D':Sto} {v vp:Value} {P:Pl} {kv:Ens} {s:Nat} {told:Bs→Bool} (h:SeqOk D v vp P kv s told) (hD:Le D D'):SeqOk D' v vp P kv s told:=by obtain ⟨f,cap,h1,h2,h3⟩:=h;exact ⟨f,cap,h1,h2,fun w0 w D2 ms ss sp l J Jx hD2=>h3 w0 w D2 ms ss sp l J Jx (hD.trans hD2)⟩
theorem Inv.give {w0 w:World} {D:Sto} {ms ss:List Seg} {c sp:Seg} (h:Inv w0 D (c::sp::(ms++ss)) w):Inv w0 D (sp::(ms++(c::ss))) w:=
 h.perm ((List.Perm.trans (List.perm_middle.cons sp) (List.Perm.swap c sp _)).flatten)
theorem Inv.fetch {w0 w:World} {D:Sto} {ms ss:List Seg} {c sp:Seg} (h:Inv w0 D (sp::(ms++(c::ss))) w):Inv w0 D (c::sp::(ms++ss)) w:=
 h.perm ((List.Perm.trans (List.Perm.swap sp c _) (List.perm_middle.symm.cons sp)).flatten)
def curE (kv:Ens) (n:Nat):Bs×Bs:=(kv[n]?).getD ([], [])
theorem findP_at {kv:Ens} (hs:Sorted kv): ∀{j:Nat} {e:Bs×Bs},kv[j]? =some e→findP kv e.1=(j,true):=by
 induction kv with
 |nil=>intro j e h;simp at h
 |cons x r ih=>
  intro j e h;have hs':=List.pairwise_cons.1 hs;rw [findP];cases j with
  |zero=>
   obtain rfl:x=e:=by simpa using h
   rw [ltB_irrefl];simp
  |succ j=>
   have h2:r[j]? =some e:=by simpa using h
   have hlt:=hs'.1 e (List.mem_of_getElem? h2);rw [if_pos hlt,ih hs'.2 h2]
theorem from_next {kv:Ens} (hs:Sorted kv) {j:Nat} {e:Bs×Bs} (h:kv[j]? =some e):fromKv e.1 true kv=kv[j+1]? :=by rw [fromKv_at kv hs,fromK,findP_at hs h];rfl
theorem from_nil (kv:Ens):fromK [] false kv=0:=by
 cases kv with
 |nil=>rfl
 |cons e r=>
  rw [fromK,findP];have h:ltB e.1 []=false:=by cases e.1<;>rfl
  rw [h];simp
structure PoolOk (P:Pl) (kv:Ens):Prop where
 sorted:Sorted kv
 from9: ∀key above,key.length≤32→(newBt P).from_ key above= .ok (fromKv key above kv)
 len:kv.length≤2040
 keys: ∀e∈kv,e.1.length≤32
 vals: ∀e∈kv,e.2.length≤64
theorem PoolOk.of {P:Pl} {kv:Ens} (hA:AllOk (newBt P)) (h:Holds (newBt P) kv) (hl:kv.length≤700) (h1: ∀e∈kv,e.1.length≤32) (h2: ∀e∈kv,e.2.length≤64):PoolOk P kv:=
 ⟨h.sorted,fun key above hk=>h.from_ hA hl above hk,by omega,h1,h2⟩
theorem PoolOk.next {P:Pl} {kv:Ens} (h:PoolOk P kv) {key:Bs} (hk:key.length≤32):(newBt P).from_ key false= .ok (kv[fromK key false kv]?):=by rw [h.from9 _ false hk,fromKv_at kv h.sorted]
theorem PoolOk.above {P:Pl} {kv:Ens} (h:PoolOk P kv) {j:Nat} {e:Bs×Bs} (he:kv[j]? =some e):(newBt P).from_ e.1 true= .ok (kv[j+1]?):=by rw [h.from9 _ true (h.keys e (List.mem_of_getElem? he)),from_next h.sorted he]
end Go.Proofs.YtkknmpkcfpdllaaGreatDoor.B
