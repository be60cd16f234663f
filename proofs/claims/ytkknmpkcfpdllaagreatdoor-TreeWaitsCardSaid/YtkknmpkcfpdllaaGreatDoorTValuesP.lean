/- What functions of the program compute, each function once: steps over the model, and the plain law of it. -/
import Derived.Test.YtkknmpkcfpdllaaGreatDoorTWirePure
import Derived.Test.YtkknmpkcfpdllaaGreatDoorTCheckG
import Derived.Test.YtkknmpkcfpdllaaGreatDoorTDAv
import Derived.Test.YtkknmpkcfpdllaaGreatDoorTDLaid
import Derived.Test.YtkknmpkcfpdllaaGreatDoorTTreeLaid
namespace Go.Proofs.YtkknmpkcfpdllaaGreatDoor.B
open Go Go.Proofs
set_option linter.unusedVariables false
set_option linter.unusedSimpArgs false
def ToldOk (D:Sto) (vt:Value) (told:Bs→Bool):Prop:= ∃f cap,vt= .func (.func f) #[] cap∧enters Tryz.prog f=true∧
 ∀(w0 w:World) (D':Sto) (ss:List Seg) (vk:Value) (key:Bs),Le D D'→Inv w0 D' ss w→RB D' vk key→key.length≤100000→Calls Tryz.prog f (#[]++ #[vk]++cap) w (Ret fun r w'=>(r= .bool true∧told key=true∧Inv w0 D' ss w')∨(r= .bool false∧ ¬told key=true∧Inv w0 D' ss w'))
theorem ToldOk.mono {D D':Sto} {vt:Value} {told:Bs→Bool} (h:ToldOk D vt told) (hD:Le D D'):ToldOk D' vt told:=by obtain ⟨f,cap,h1,h2,h3⟩:=h;exact ⟨f,cap,h1,h2,fun w0 w D2 ss vk key hD2=>h3 w0 w D2 ss vk key (hD.trans hD2)⟩
def YieldOk (l:Nat) (vs:Array Value) (w:World) (R:Ending→World→Prop):Prop:= ∃r,w.heap[l]? =some (.loop r)∧vs.size=r.params.size∧RoundAt Tryz.prog l r vs w R
structure Rounds (w0:World) (D0:Sto) (vp:Value) (P:Pl) (l:Nat) (kv:Ens) (s:Nat) (told:Bs→Bool) (J Jx:Nat→Sto→List Seg→Prop):Prop where
 mono: ∀i D D' ms,Le D D'→J i D ms→J i D' ms
 round: ∀i e D ms sp rest w vk vv,kv[s+i]? =some e→told e.1=true→Le D0 D→J i D ms→PoolS D vp P sp→RB D vk e.1→RB D vv e.2→Inv w0 D (sp::(ms++rest)) w→
  YieldOk l #[.agg #[vk,vv], .nilIface] w fun en w'=> ∃b D' ms' sp',en= .returned (.bool b)∧Le D D'∧(b=true→J (i+1) D' ms')∧(b=false→Jx (i+1) D' ms')∧PoolS D' vp P sp'∧Inv w0 D' (sp'::(ms'++rest)) w'
theorem Rounds.later {w0:World} {D0 D1:Sto} {vp:Value} {P:Pl} {l:Nat} {kv:Ens} {s:Nat} {told:Bs→Bool} {J Jx:Nat→Sto→List Seg→Prop} (h:Rounds w0 D0 vp P l kv s told J Jx) (hD:Le D0 D1):Rounds w0 D1 vp P l kv s told J Jx:=
 ⟨h.mono,fun i e D ms sp rest w vk vv h1 h2 h3=>h.round i e D ms sp rest w vk vv h1 h2 (hD.trans h3)⟩
def Done (kv:Ens) (s:Nat) (told:Bs→Bool) (i:Nat):Prop:=(∀j,j<i→ ∃x,kv[s+j]? =some x∧told x.1=true)∧ ∀x,kv[s+i]? =some x→ ¬told x.1=true
def IterPost (w0:World) (D:Sto) (ss:List Seg) (vp:Value) (P:Pl) (kv:Ens) (s:Nat) (told:Bs→Bool) (J Jx:Nat→Sto→List Seg→Prop) (w':World):Prop:=
 ∃i D' ms' sp',Le D D'∧((J i D' ms'∧Done kv s told i)∨Jx i D' ms')∧PoolS D' vp P sp'∧Inv w0 D' (sp'::(ms'++ss)) w'
def SeqOk (D:Sto) (v vp:Value) (P:Pl) (kv:Ens) (s:Nat) (told:Bs→Bool):Prop:= ∃f cap,v= .func (.func f) #[] cap∧enters Tryz.prog f=true∧
 ∀(w0 w:World) (D':Sto) (ms ss:List Seg) (sp:Seg) (l:Nat) (J Jx:Nat→Sto→List Seg→Prop),Le D D'→Inv w0 D' (sp::(ms++ss)) w→PoolS D' vp P sp→Rounds w0 D' vp P l kv s told J Jx→J 0 D' ms→
  Calls Tryz.prog f (#[.func (.yield l) #[] #[]]++cap) w (Ret fun _ w'=>IterPost w0 D' ss vp P kv s told J Jx w')
theorem SeqOk.mono {D D':Sto} {v vp:Value} {P:Pl} {kv:Ens} {s:Nat} {told:Bs→Bool} (h:SeqOk D v vp P kv s told) (hD:Le D D'):SeqOk D' v vp P kv s told:=by obtain ⟨f,cap,h1,h2,h3⟩:=h;exact ⟨f,cap,h1,h2,fun w0 w D2 ms ss sp l J Jx hD2=>h3 w0 w D2 ms ss sp l J Jx (hD.trans hD2)⟩
theorem Inv.give {w0 w:World} {D:Sto} {ms ss:List Seg} {c sp:Seg} (h:Inv w0 D (c::sp::(ms++ss)) w):Inv w0 D (sp::(ms++(c::ss))) w:=
 h.perm ((List.Perm.trans (List.perm_middle.cons sp) (List.Perm.swap c sp _)).flatten)
theorem Inv.fetch {w0 w:World} {D:Sto} {ms ss:List Seg} {c sp:Seg} (h:Inv w0 D (sp::(ms++(c::ss))) w):Inv w0 D (c::sp::(ms++ss)) w:=
 h.perm ((List.Perm.trans (List.Perm.swap sp c _) (List.perm_middle.symm.cons sp)).flatten)
theorem findP_at {kv:Ens} (hs:Sorted kv): ∀{j:Nat} {e:Bs×Bs},kv[j]? =some e→findP kv e.1=(j,true):=by
 induction kv with
 |nil=>intro j e h;simp at h
 |cons x r ih=>
  intro j e h;have hs':=List.pairwise_cons.1 hs;rw [findP];cases j with
  |zero=>
   obtain rfl:x=e:=by simpa using h
   rw [ltB_irrefl];simp
  |succ j=>
   have h2:r[j]? =some e:=by simpa using h
   have hlt:=hs'.1 e (List.mem_of_getElem? h2);rw [if_pos hlt,ih hs'.2 h2]
theorem from_next {kv:Ens} (hs:Sorted kv) {j:Nat} {e:Bs×Bs} (h:kv[j]? =some e):fromKv e.1 true kv=kv[j+1]? :=by rw [fromKv_at kv hs,fromK,findP_at hs h];rfl
structure PoolOk (P:Pl) (kv:Ens):Prop where
 sorted:Sorted kv
 from9: ∀key above,key.length≤32→(newBt P).from_ key above= .ok (fromKv key above kv)
 len:kv.length≤2040
 keys: ∀e∈kv,e.1.length≤32
 vals: ∀e∈kv,e.2.length≤64
theorem PoolOk.of {P:Pl} {kv:Ens} (hA:AllOk (newBt P)) (h:Holds (newBt P) kv) (hl:kv.length≤700) (h1: ∀e∈kv,e.1.length≤32) (h2: ∀e∈kv,e.2.length≤64):PoolOk P kv:=
 ⟨h.sorted,fun key above hk=>h.from_ hA hl above hk,by omega,h1,h2⟩
theorem PoolOk.next {P:Pl} {kv:Ens} (h:PoolOk P kv) {key:Bs} (hk:key.length≤32):(newBt P).from_ key false= .ok (kv[fromK key false kv]?):=by rw [h.from9 _ false hk,fromKv_at kv h.sorted]
theorem PoolOk.above {P:Pl} {kv:Ens} (h:PoolOk P kv) {j:Nat} {e:Bs×Bs} (he:kv[j]? =some e):(newBt P).from_ e.1 true= .ok (kv[j+1]?):=by rw [h.from9 _ true (h.keys e (List.mem_of_getElem? he)),from_next h.sorted he]
def LC:List Pg→Int→Int→Prop
 | [],_,_=>False
 | [x],fl,nx=>x.id=fl∧x.next=nx
 |x::y::r,fl,nx=>x.id=fl∧x.next=y.id∧LC (y::r) y.id nx
theorem LC.append {L2:List Pg} {md nx:Int} (h2:LC L2 md nx): ∀(L1:List Pg) {fl:Int},LC L1 fl md→LC (L1++L2) fl nx
 | [],_,h=>h.elim
 | [x],fl,h=>by
  cases L2 with
  |nil=>exact h2.elim
  |cons y r=>
   have hy:y.id=md:=by cases r<;>exact h2.1
   exact ⟨h.1,by rw [h.2,hy],by rw [hy];exact h2⟩
 |x::y::r,fl,h=>⟨h.1,h.2.1,LC.append h2 (y::r) h.2.2⟩
theorem LC.chain: ∀(L:List Pg) {fl:Int},LC L fl (-1)→chainOk L=true
 | [],_,h=>h.elim
 | [x],_,h=>by simp [chainOk,h.2]
 |x::y::r,_,h=>by rw [chainOk,LC.chain (y::r) h.2.2,h.2.1];simp
set_option maxRecDepth 20000
set_option maxHeartbeats 8000000
def FreeW (b:Bt):Int→List Int→Prop
 |f, []=>f=0
 |f,j::r=>f=j∧1<j∧j<256∧ ∃y,b.page j= .ok y∧y.level=0∧y.ents= []∧FreeW b (max y.next 0) r
theorem FreeW.cons {b:Bt} {f:Int} {l:List Int} (h:FreeW b f l) (hf:0<f): ∃r y,l=f::r∧1<f∧f<256∧b.page f= .ok y∧y.level=0∧y.ents= []∧FreeW b (max y.next 0) r:=by
 cases l with
 |nil=>have:f=0:=h;omega
 |cons j r=>
  obtain ⟨rfl,h1,h2,y,h3,h4,h5,h6⟩:=h;exact ⟨r,y,rfl,h1,h2,h3,h4,h5,h6⟩
variable {B:Nat}
theorem FreeC.toW {b:Bt}: ∀(fr:List Int) {f:Int},FreeC b.view f fr→FreeW b f fr
 | [],_,h=>h
 |j::r,_,⟨h1,h2,h3,y,h4,h5,h6,h7⟩=>⟨h1,h2,h3,y,page_of_view h4,h5,h6,FreeC.toW r h7⟩
variable {B:Nat}
def mulS:Nat→Nat
 |0=>1
 |1=>3
 |2=>7
 |3=>11
 |_=>13
def invS:Nat→Nat
 |0=>1
 |1=>141
 |2=>181
 |3=>96
 |_=>65
theorem mulS_inv: ∀s,s<5→ ∀j,j<211→(j*mulS s % 211)*invS s % 211=j:=by decide+kernel
theorem mulS_inj {s i j:Nat} (hs:s<5) (hi:i<211) (hj:j<211) (h:i*mulS s % 211=j*mulS s % 211):i=j:=by rw [←mulS_inv s hs i hi,h,mulS_inv s hs j hj]
theorem mulS_pos {s i:Nat} (hs:s<5) (h1:1≤i) (hi:i<211):1≤i*mulS s % 211:=by
 rcases Nat.eq_zero_or_pos (i*mulS s % 211) with h|h
 ·have:=mulS_inv s hs i hi;rw [h] at this;omega
 exact h
def keyR (s i:Nat):Bs:= [i*mulS s % 211,1]
theorem insKv_new_len {k v:Bs}: ∀l:Ens,(∀e∈l,e.1≠k)→(insKv l k v).length=l.length+1
 | [],_=>rfl
 |a::r,h=>by
  rw [insKv];split
  ·rw [List.length_cons,insKv_new_len r (fun e he=>h e (by simp [he])),List.length_cons]
  rw [if_neg (h a (by simp))];rfl
def PutR (s i:Nat) (kv:Ens):Prop:=kv.length+1=i∧ ∀e∈kv,∃j,1≤j∧j<i∧e.1=keyR s j
theorem PutR.start (s:Nat):PutR s 1 []:=⟨rfl,by simp⟩
theorem PutR.step {s i:Nat} {kv:Ens} {v:Bs} (hs:s<5) (hi:i<211) (h:PutR s i kv):PutR s (i+1) (insKv kv (keyR s i) v):=by
 have hne: ∀e∈kv,e.1≠keyR s i:=by
  intro e he h0;obtain ⟨j,h1,h2,h3⟩:=h.2 e he;rw [h3] at h0;have:j*mulS s % 211=i*mulS s % 211:=by simpa [keyR] using h0
  have:=mulS_inj hs (by omega) hi this;omega
 refine ⟨by rw [insKv_new_len kv hne];have:=h.1;omega,fun e he=> ?_⟩;rcases insKv_mem kv he with q|q
 ·subst q;exact ⟨i,by have:=h.1;omega,by omega,rfl⟩
 obtain ⟨j,h1,h2,h3⟩:=h.2 e q;exact ⟨j,h1,by omega,h3⟩
def DelR (s n i gone:Nat) (kv:Ens):Prop:=gone+kv.length=n∧ ∀e∈kv,∃q,1≤q∧q≤210∧e.1= [q,1]∧ ∀j,1≤j→j<i→q≠j*mulS s % 211
theorem DelR.start {s s' n:Nat} {kv:Ens} (hs:s'<5) (hn:n≤200) (h:PutR s' (n+1) kv):DelR s n 1 0 kv:=by refine ⟨by have:=h.1;omega,fun e he=> ?_⟩;obtain ⟨j,h1,h2,h3⟩:=h.2 e he;exact ⟨j*mulS s' % 211,mulS_pos hs h1 (by omega),by have:=Nat.mod_lt (j*mulS s') (show 0<211 by decide);omega,h3,fun q h4 h5=>by omega⟩
theorem lookKv_some {kv:Ens} {k:Bs} (hs:Sorted kv) (h:(lookKv kv k).isSome=true):(delKv kv k).length+1=kv.length:=by
 rw [←lookKv_find] at h;have hf:(findP kv k).2=true:=by
  cases hq:(findP kv k).2 with
  |true=>rfl
  |false=>rw [hq] at h;simp at h
 have hlt:=findP_lt hf;rw [←delKv_found kv hs hf,List.length_eraseIdx,if_pos hlt];omega
theorem lookKv_not {kv:Ens} {k:Bs} (hs:Sorted kv) (h:(lookKv kv k).isSome=false):delKv kv k=kv:=by
 rw [←lookKv_find] at h;refine delKv_none hs ?_;cases hq:(findP kv k).2 with
 |true=>rw [hq] at h;simp at h
 |false=>rfl
theorem DelR.step {s n i gone:Nat} {kv:Ens} (hso:Sorted kv) (h:DelR s n i gone kv):DelR s n (i+1) (if (lookKv kv (keyR s i)).isSome=true then gone+1 else gone) (delKv kv (keyR s i)):=by
 refine ⟨?_,fun e he=> ?_⟩
 ·have h0:=h.1;split
  ·rename_i hc;have:=lookKv_some hso hc;omega
  rename_i hc;rw [lookKv_not hso (by simpa using hc)];exact h0
 have hm:=List.mem_filter.1 he;obtain ⟨q,h1,h2,h3,h4⟩:=h.2 e hm.1;refine ⟨q,h1,h2,h3,fun j h5 h6=> ?_⟩;by_cases hj:j=i
 ·subst hj;intro h7;have:e.1≠keyR s j:=by simpa using hm.2
  exact this (by rw [h3,h7];rfl)
 exact h4 j h5 (by omega)
open Go
theorem all_len: ∀(rs:List Rc) {b b':Bt},b.all rs= .ok b'→b'.recs.length=b.recs.length+rs.length∧b'.pool=b.pool
 | [],b,b',h=>by rw [Bt.all] at h;injection h with h;subst h;exact ⟨rfl,rfl⟩
 |r::rs,b,b',h=>by
  rw [Bt.all] at h;split at h
  ·cases h
  rename_i b1 hb;have:=all_len rs h;rw [Bt.doR] at hb;split at hb
  ·cases hb
  injection hb with hb;subst hb
  simp only [List.length_append,List.length_cons,List.length_nil] at this ⊢;exact ⟨by omega,this.2⟩
theorem Runs.len {b b':Bt} {k:Nat} (h:Runs b b' k):b'.recs.length≤b.recs.length+k∧b'.pool=b.pool:=by obtain ⟨rs,h1,_,h3⟩:=h;have:=all_len rs h3;exact ⟨by omega,this.2⟩
theorem EnR.one {D:Sto} {vs:List Value} {x:Bs×Bs} (h:EnR D vs x): ∀u∈vs,u.oneCell'=true:=by
 obtain ⟨k,v,rfl,hk,hv,_⟩:=h;intro u hu;simp only [List.mem_cons,List.not_mem_nil,or_false] at hu;rcases hu with rfl|rfl
 ·exact hk.one
 exact hv.one
theorem look_isSome (kv:Ens) (k:Bs):(lookKv kv k).isSome=(findP kv k).2:=by rw [←lookKv_find];cases h:(findP kv k).2<;>simp
structure Plays (P:Pl) (b:Bt) (n:Int) (i:Nat) (kv:Ens):Prop where
 ok:PlOk P n
 run: ∃c,Runs (newBt P) b c∧n+(c:Nat)≤4+601*(i:Nat)
 h:HoldsA 39 b (4+i) kv
 n0:4≤n
 len:kv.length≤i
theorem Plays.start:Plays E0 (newBt E0) 4 0 []:=⟨E0_ok,⟨0,Runs.refl _ _,by omega⟩,E0_holdsA.2.mono (by omega),by omega,by simp⟩
theorem Plays.all {P:Pl} {b:Bt} {n:Int} {i:Nat} {kv:Ens} (h:Plays P b n i kv):AllOk b:=by obtain ⟨c,h1,_⟩:=h.run;exact h1.ok (AllOk.new h.ok)
theorem Plays.recs {P:Pl} {b:Bt} {n:Int} {i:Nat} {kv:Ens} (h:Plays P b n i kv):(b.recs.length:Int)≤601*(i:Nat)∧b.pool=P.f:=by obtain ⟨c,h1,h2⟩:=h.run;have h3:=Runs.len h1;have e0:(newBt P).recs.length=0:=rfl;have:=h.n0;exact ⟨by omega,h3.2⟩
theorem Plays.sorted {P:Pl} {b:Bt} {n:Int} {i:Nat} {kv:Ens} (h:Plays P b n i kv):Sorted kv:=h.h.sorted
theorem Plays.idle {P:Pl} {b:Bt} {n:Int} {i:Nat} {kv:Ens} (h:Plays P b n i kv):Plays P b n (i+1) kv:=by obtain ⟨c,h1,h2⟩:=h.run;exact ⟨h.ok,⟨c,h1,by omega⟩,h.h.mono (by omega),h.n0,by have:=h.len;omega⟩
theorem Plays.put {P:Pl} {b:Bt} {n:Int} {i:Nat} {kv:Ens} {k v:Bs} (h:Plays P b n i kv) (hi:i≤700) (hk:rightK k=true) (hv:v.length≤64) :
  ∃b',b.put k v= .ok b'∧Plays P b' n (i+1) (insKv kv k v):=by
 obtain ⟨b',h1,h2⟩:=h.h.put (by omega) hk hv;obtain ⟨c,h3,h4⟩:=h.run;refine ⟨b',h1,h.ok,⟨c+601,h3.trans (put_runs h.all h1) (by omega),by omega⟩,h2.mono (by omega),h.n0, ?_⟩;have:=(insKv_len (k:=k) (v:=v) kv).2;have:=h.len;omega
theorem Plays.del {P:Pl} {b:Bt} {n:Int} {i:Nat} {kv:Ens} {k:Bs} (h:Plays P b n i kv) (hi:i≤100) (hk:rightK k=true) :
  ∃b',b.delete k= .ok ((findP kv k).2,b')∧Plays P b' n (i+1) (delKv kv k):=by
 obtain ⟨b',h1,h2,h3⟩:=h.h.delete h.all hk (by omega);obtain ⟨c,h4,h5⟩:=h.run;rw [look_isSome] at h1;refine ⟨b',h1,h.ok,⟨c+27,h4.trans h2 (by omega),by omega⟩,h3.mono (by omega),h.n0, ?_⟩;have:=delKv_len kv k;have:=h.len;omega
theorem Plays.laid {P:Pl} {b:Bt} {n:Int} {i:Nat} {kv:Ens} (h:Plays P b n i kv) (hi:i≤100000) :
  ∃P',laidP P b.recs n=some (P',n+b.recs.length)∧Plays P' (newBt P') (n+b.recs.length) (i+1) kv∧PHoldsA 39 P' (n+b.recs.length) (4+i) kv:=by
 obtain ⟨c,h1,h2⟩:=h.run;have h0:=h.n0;obtain ⟨h3,P',h4,h5⟩:=laid_holdsA h.ok (by omega) h1 (by omega) h.h;refine ⟨P',h4,⟨h5.1,⟨0,Runs.refl _ _,by omega⟩,h5.2.mono (by omega),by omega,by have:=h.len;omega⟩,h5⟩
end Go.Proofs.YtkknmpkcfpdllaaGreatDoor.B
