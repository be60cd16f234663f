/- What functions of the program compute, each function once: steps over the model, and the plain law of it. -/
import Derived.Test.YtkknmpkcfpdllaaGreatDoorSIter
import Derived.Test.YtkknmpkcfpdllaaGreatDoorTTreeChain
import Derived.Test.YtkknmpkcfpdllaaGreatDoorTRow
import Derived.Test.YtkknmpkcfpdllaaGreatDoorTCheck
namespace Go.Proofs.YtkknmpkcfpdllaaGreatDoor.B
open Go Go.Proofs
set_option linter.unusedVariables false
set_option linter.unusedSimpArgs false
def ToldOk (D:Sto) (vt:Value) (told:Bs→Bool):Prop:= ∃f cap,vt= .func (.func f) #[] cap∧enters Tryz.prog f=true∧
 ∀(w0 w:World) (D':Sto) (ss:List Seg) (vk:Value) (key:Bs),Le D D'→Inv w0 D' ss w→RB D' vk key→key.length≤100000→Calls Tryz.prog f (#[]++ #[vk]++cap) w (Ret fun r w'=>(r= .bool true∧told key=true∧Inv w0 D' ss w')∨(r= .bool false∧ ¬told key=true∧Inv w0 D' ss w'))
theorem ToldOk.mono {D D':Sto} {vt:Value} {told:Bs→Bool} (h:ToldOk D vt told) (hD:Le D D'):ToldOk D' vt told:=by obtain ⟨f,cap,h1,h2,h3⟩:=h;exact ⟨f,cap,h1,h2,fun w0 w D2 ss vk key hD2=>h3 w0 w D2 ss vk key (hD.trans hD2)⟩
def YieldOk (l:Nat) (vs:Array Value) (w:World) (R:Ending→World→Prop):Prop:= ∃r,w.heap[l]? =some (.loop r)∧vs.size=r.params.size∧RoundAt Tryz.prog l r vs w R
structure Rounds (w0:World) (D0:Sto) (vp:Value) (P:Pl) (l:Nat) (kv:Ens) (s:Nat) (told:Bs→Bool) (J Jx:Nat→Sto→List Seg→Prop):Prop where
 mono: ∀i D D' ms,Le D D'→J i D ms→J i D' ms
 round: ∀i e D ms sp rest w vk vv,kv[s+i]? =some e→told e.1=true→Le D0 D→J i D ms→PoolS D vp P sp→RB D vk e.1→RB D vv e.2→Inv w0 D (sp::(ms++rest)) w→
  YieldOk l #[.agg #[vk,vv], .nilIface] w fun en w'=> ∃b D' ms' sp',en= .returned (.bool b)∧Le D D'∧(b=true→J (i+1) D' ms')∧(b=false→Jx (i+1) D' ms')∧PoolS D' vp P sp'∧Inv w0 D' (sp'::(ms'++rest)) w'
theorem Rounds.later {w0:World} {D0 D1:Sto} {vp:Value} {P:Pl} {l:Nat} {kv:Ens} {s:Nat} {told:Bs→Bool} {J Jx:Nat→Sto→List Seg→Prop} (h:Rounds w0 D0 vp P l kv s told J Jx) (hD:Le D0 D1):Rounds w0 D1 vp P l kv s told J Jx:=
 ⟨h.mono,fun i e D ms sp rest w vk vv h1 h2 h3=>h.round i e D ms sp rest w vk vv h1 h2 (hD.trans h3)⟩
def Done (kv:Ens) (s:Nat) (told:Bs→Bool) (i:Nat):Prop:=(∀j,j<i→ ∃x,kv[s+j]? =some x∧told x.1=true)∧ ∀x,kv[s+i]? =some x→ ¬told x.1=true
def IterPost (w0:World) (D:Sto) (ss:List Seg) (vp:Value) (P:Pl) (kv:Ens) (s:Nat) (told:Bs→Bool) (J Jx:Nat→Sto→List Seg→Prop) (w':World):Prop:=
 ∃i D' ms' sp',Le D D'∧((J i D' ms'∧Done kv s told i)∨Jx i D' ms')∧PoolS D' vp P sp'∧Inv w0 D' (sp'::(ms'++ss)) w'
def SeqOk (D:Sto) (v vp:Value) (P:Pl) (kv:Ens) (s:Nat) (told:Bs→Bool):Prop:= ∃f cap,v= .func (.func f) #[] cap∧enters Tryz.prog f=true∧
 ∀(w0 w:World) (D':Sto) (ms ss:List Seg) (sp:Seg) (l:Nat) (J Jx:Nat→Sto→List Seg→Prop),Le D D'→Inv w0 D' (sp::(ms++ss)) w→PoolS D' vp P sp→Rounds w0 D' vp P l kv s told J Jx→J 0 D' ms→
  Calls Tryz.prog f (#[.func (.yield l) #[] #[]]++cap) w (Ret fun _ w'=>IterPost w0 D' ss vp P kv s told J Jx w')
theorem SeqOk.mono {D D':Sto} {v vp:Value} {P:Pl} {kv:Ens} {s:Nat} {told:Bs→Bool} (h:SeqOk D v vp P kv s told) (hD:Le D D'):SeqOk D' v vp P kv s told:=by obtain ⟨f,cap,h1,h2,h3⟩:=h;exact ⟨f,cap,h1,h2,fun w0 w D2 ms ss sp l J Jx hD2=>h3 w0 w D2 ms ss sp l J Jx (hD.trans hD2)⟩
theorem Inv.give {w0 w:World} {D:Sto} {ms ss:List Seg} {c sp:Seg} (h:Inv w0 D (c::sp::(ms++ss)) w):Inv w0 D (sp::(ms++(c::ss))) w:=
 h.perm ((List.Perm.trans (List.perm_middle.cons sp) (List.Perm.swap c sp _)).flatten)
theorem Inv.fetch {w0 w:World} {D:Sto} {ms ss:List Seg} {c sp:Seg} (h:Inv w0 D (sp::(ms++(c::ss))) w):Inv w0 D (c::sp::(ms++ss)) w:=
 h.perm ((List.Perm.trans (List.Perm.swap sp c _) (List.perm_middle.symm.cons sp)).flatten)
theorem findP_at {kv:Ens} (hs:Sorted kv): ∀{j:Nat} {e:Bs×Bs},kv[j]? =some e→findP kv e.1=(j,true):=by
 induction kv with
 |nil=>intro j e h;simp at h
 |cons x r ih=>
  intro j e h;have hs':=List.pairwise_cons.1 hs;rw [findP];cases j with
  |zero=>
   obtain rfl:x=e:=by simpa using h
   rw [ltB_irrefl];simp
  |succ j=>
   have h2:r[j]? =some e:=by simpa using h
   have hlt:=hs'.1 e (List.mem_of_getElem? h2);rw [if_pos hlt,ih hs'.2 h2]
theorem from_next {kv:Ens} (hs:Sorted kv) {j:Nat} {e:Bs×Bs} (h:kv[j]? =some e):fromKv e.1 true kv=kv[j+1]? :=by rw [fromKv_at kv hs,fromK,findP_at hs h];rfl
structure PoolOk (P:Pl) (kv:Ens):Prop where
 sorted:Sorted kv
 from9: ∀key above,key.length≤32→(newBt P).from_ key above= .ok (fromKv key above kv)
 len:kv.length≤2040
 keys: ∀e∈kv,e.1.length≤32
 vals: ∀e∈kv,e.2.length≤64
theorem PoolOk.of {P:Pl} {kv:Ens} (hA:AllOk (newBt P)) (h:Holds (newBt P) kv) (hl:kv.length≤700) (h1: ∀e∈kv,e.1.length≤32) (h2: ∀e∈kv,e.2.length≤64):PoolOk P kv:=
 ⟨h.sorted,fun key above hk=>h.from_ hA hl above hk,by omega,h1,h2⟩
theorem PoolOk.next {P:Pl} {kv:Ens} (h:PoolOk P kv) {key:Bs} (hk:key.length≤32):(newBt P).from_ key false= .ok (kv[fromK key false kv]?):=by rw [h.from9 _ false hk,fromKv_at kv h.sorted]
theorem PoolOk.above {P:Pl} {kv:Ens} (h:PoolOk P kv) {j:Nat} {e:Bs×Bs} (he:kv[j]? =some e):(newBt P).from_ e.1 true= .ok (kv[j+1]?):=by rw [h.from9 _ true (h.keys e (List.mem_of_getElem? he)),from_next h.sorted he]
open Go
def begB (p k:Bs):Bool:=decide (p.length≤k.length) && decide (k.take p.length=p)
def wantE (p:Bs) (kv:Ens):Ens:=kv.filter fun e=>begB p e.1
theorem all_len: ∀(rs:List Rc) {b b':Bt},b.all rs= .ok b'→b'.recs.length=b.recs.length+rs.length∧b'.pool=b.pool
 | [],b,b',h=>by rw [Bt.all] at h;injection h with h;subst h;exact ⟨rfl,rfl⟩
 |r::rs,b,b',h=>by
  rw [Bt.all] at h;split at h
  ·cases h
  rename_i b1 hb;have:=all_len rs h;rw [Bt.doR] at hb;split at hb
  ·cases hb
  injection hb with hb;subst hb
  simp only [List.length_append,List.length_cons,List.length_nil] at this ⊢;exact ⟨by omega,this.2⟩
theorem Runs.len {b b':Bt} {k:Nat} (h:Runs b b' k):b'.recs.length≤b.recs.length+k∧b'.pool=b.pool:=by obtain ⟨rs,h1,_,h3⟩:=h;have:=all_len rs h3;exact ⟨by omega,this.2⟩
theorem EnR.one {D:Sto} {vs:List Value} {x:Bs×Bs} (h:EnR D vs x): ∀u∈vs,u.oneCell'=true:=by
 obtain ⟨k,v,rfl,hk,hv,_⟩:=h;intro u hu;simp only [List.mem_cons,List.not_mem_nil,or_false] at hu;rcases hu with rfl|rfl
 ·exact hk.one
 exact hv.one
structure Ck where
 seen:List Int
 leaves:List Pg
 keys:Int
section
variable {b:Bt} {f:Nat} {id level:Int} {low:Bs} {high:Option Bs} {c:Ck} {x:Pg}
end
structure CkOk (c:Ck):Prop where
 nodup:c.seen.Nodup
 range: ∀i∈c.seen,0≤i∧i<256
 leaves:c.leaves.length≤c.seen.length
 keys0:0≤c.keys
 keys1:c.keys≤8*(c.leaves.length:Nat)
def chainOk:List Pg→Bool
 | []=>true
 | [x]=>decide (x.next= -1)
 |x::y::r=>decide (x.next=y.id) && chainOk (y::r)
theorem CkOk.put {c:Ck} {id:Int} (h:CkOk c) (hn:id ∉ c.seen) (h0:0≤id∧id<256):CkOk ⟨id::c.seen,c.leaves,c.keys⟩:=
 ⟨List.nodup_cons.2 ⟨hn,h.nodup⟩,fun i hi=>by
  rcases List.mem_cons.1 hi with rfl|hi
  ·exact h0
  exact h.range i hi,by have:=h.leaves;simp only [List.length_cons];omega,h.keys0,h.keys1⟩
theorem CkOk.leaf {c:Ck} {id:Int} {x:Pg} (h:CkOk c) (hn:id ∉ c.seen) (h0:0≤id∧id<256) (hx:x.ents.length≤8):CkOk ⟨id::c.seen,c.leaves++ [x],c.keys+x.ents.length⟩:=
 ⟨(h.put hn h0).nodup,(h.put hn h0).range,by have:=h.leaves;simp only [List.length_cons,List.length_append,List.length_nil];omega,by have:=h.keys0;simp only [];omega,by have:=h.keys1;simp only [List.length_append,List.length_cons,List.length_nil];omega⟩
def LC:List Pg→Int→Int→Prop
 | [],_,_=>False
 | [x],fl,nx=>x.id=fl∧x.next=nx
 |x::y::r,fl,nx=>x.id=fl∧x.next=y.id∧LC (y::r) y.id nx
theorem LC.append {L2:List Pg} {md nx:Int} (h2:LC L2 md nx): ∀(L1:List Pg) {fl:Int},LC L1 fl md→LC (L1++L2) fl nx
 | [],_,h=>h.elim
 | [x],fl,h=>by
  cases L2 with
  |nil=>exact h2.elim
  |cons y r=>
   have hy:y.id=md:=by cases r<;>exact h2.1
   exact ⟨h.1,by rw [h.2,hy],by rw [hy];exact h2⟩
 |x::y::r,fl,h=>⟨h.1,h.2.1,LC.append h2 (y::r) h.2.2⟩
theorem LC.chain: ∀(L:List Pg) {fl:Int},LC L fl (-1)→chainOk L=true
 | [],_,h=>h.elim
 | [x],_,h=>by simp [chainOk,h.2]
 |x::y::r,_,h=>by rw [chainOk,LC.chain (y::r) h.2.2,h.2.1];simp
section
variable {α:Type} {size:Nat} {R:Sto→List Value→α→Prop} {P:Program} {ops:Array Oper} {Q:Exit→Act→World→Prop} {a:Act} {w0 w w':World} {D:Sto} {ss:List Seg} {rest:List Oper} {o:Oper} {N:Nat} {env:Env} {K:Act→World→Prop}
theorem At.cells {cs:Array Value} {off:Nat} {xs:List α} (h:At size R D cs off xs) (h1: ∀vs x,R D vs x→ ∀u∈vs,u.oneCell'=true) (hz:0<size) :
    ∃news:List Value,news.length=xs.length*size∧(∀j,j<xs.length*size→news[j]? =cs[off+j]?)∧ ∀u∈news,u.oneCell'=true:=by
  have hone: ∀p,p<xs.length*size→ ∃u,cs[off+p]? =some u∧u.oneCell'=true:=fun p hp=>by
    have hq:p / size<xs.length:=Nat.div_lt_of_lt_mul (by rw [Nat.mul_comm];exact hp);obtain ⟨vs,hl,hr,hc⟩:=h (p / size) xs[p / size] (List.getElem?_eq_getElem hq);have hm:p % size<vs.length:=by rw [hl];exact Nat.mod_lt _ hz
    have h2:=hc (p % size) vs[p % size] (List.getElem?_eq_getElem hm);have h3:p / size*size+p % size=p:=by rw [Nat.mul_comm];exact Nat.div_add_mod p size
    exact ⟨_,by rw [Nat.add_assoc,h3] at h2;exact h2,h1 _ _ hr _ (List.getElem_mem hm)⟩
  have hget: ∀j,j<xs.length*size→((cs.toList.drop off).take (xs.length*size))[j]? =cs[off+j]? :=fun j hj=>by
    rw [List.getElem?_take_of_lt hj,List.getElem?_drop,Array.getElem?_toList]
  have hlen:((cs.toList.drop off).take (xs.length*size)).length=xs.length*size:=by
    rcases Nat.eq_zero_or_pos (xs.length*size) with h0|h0
    ·rw [h0];simp
    ·obtain ⟨u,hu,_⟩:=hone (xs.length*size - 1) (by omega);have h1:=(Array.getElem?_eq_some_iff.1 hu).1;have h2:cs.toList.length=cs.size:=Array.length_toList;simp;omega
  refine ⟨_,hlen,hget,fun u hu=> ?_⟩;obtain ⟨j,hj,rfl⟩:=List.getElem_of_mem hu;have h1:((cs.toList.drop off).take (xs.length*size))[j]? =some _:=List.getElem?_eq_getElem hj;rw [hget j (by omega)] at h1;obtain ⟨u,hu,h2⟩:=hone j (by omega);rw [hu] at h1;injection h1 with h1
  rw [←h1];exact h2
theorem At.append {cs:Array Value} {off:Nat} {xs ys':List α} {ys news:List Value} (hx: ∀cs:List Value,At size R D (ys++cs).toArray 0 xs) (hl:ys.length=xs.length*size)
    (hy:At size R D cs off ys') (hn: ∀j,j<ys'.length*size→news[j]? =cs[off+j]?) (hnl:news.length=ys'.length*size) (tail:List Value):At size R D ((ys++news)++tail).toArray 0 (xs++ys'):=fun i x hix=>by
  by_cases hi:i<xs.length
  ·rw [List.getElem?_append_left hi] at hix;have h2:=hx (news++tail) i x hix;rw [←List.append_assoc] at h2;exact h2
  ·rw [List.getElem?_append_right (by omega)] at hix;obtain ⟨vs,h1,h2,h3⟩:=hy _ x hix;refine ⟨vs,h1,h2,fun j u hj=> ?_⟩;have hj':=(List.getElem?_eq_some_iff.1 hj).1;have hi':=(List.getElem?_eq_some_iff.1 hix).1;have hm:=mul_le_of_lt (size:=size) hi';have hs:(i - xs.length)*size=i*size - xs.length*size:=Nat.sub_mul _ _ _;have hle:xs.length*size≤i*size:=Nat.mul_le_mul_right _ (by omega);have h4:=h3 j u hj;rw [Nat.add_assoc,←hn _ (by omega)] at h4;show ((ys++news)++tail).toArray[0+i*size+j]? =some u;rw [List.getElem?_toArray,List.append_assoc,List.getElem?_append_right (by omega),List.getElem?_append_left (by omega)];rw [←h4];congr 1;omega
theorem OR.make {T b c:Nat} {z:Value} (hc:c≤maxLen):OR size R D T (.slice (Option.some ⟨b,0,Option.none⟩) 0 c) ([]:List α) [(b, .cells (madeCells z.cells (c*size)) T (0,0))]:=
  OR.ofAt (n:=0) rfl (Nat.zero_le _) hc (size_madeCells' _ _) (fun i x (hx:([]:List α)[i]? =Option.some x)=>by simp at hx)
theorem Inv.shutOR {T:Nat} {v:Value} {xs:List α} {s:Seg} (i:Nat) (hI:Inv w0 D ss w) (hi:ss[i]? =some s) (hR:Keeps R) (hO:OR size R D T v xs s): ∃D',Le D D'∧Inv w0 D' (ss.eraseIdx i) w∧DR size R D' v xs:=
  ⟨_,(hI.shut_at i hi).2,(hI.shut_at i hi).1,hO.shut hR (hI.shut_at i hi).2⟩
end
def HighV (D:Sto) (v:Value) (high:Option Bs):Prop:= ∃A n c,v= .slice A n c∧RB D v (high.getD [])∧(A=none↔high=none)
theorem HighV.mono {D D':Sto} {v:Value} {high:Option Bs} (h:HighV D v high) (hD:Le D D'):HighV D' v high:=by obtain ⟨A,n,c,h1,h2,h3⟩:=h;exact ⟨A,n,c,h1,h2.mono hD,h3⟩
theorem HighV.none (D:Sto):HighV D (.slice Option.none 0 0) Option.none:=⟨_,_,_,rfl,RB.nil D,by simp⟩
theorem HighV.key {D:Sto} {v:Value} {k:Bs} (h:RB D v k) (hk:k≠ []):HighV D v (Option.some k):=by
 obtain ⟨A,c,rfl,hc,hlt,hA,hat⟩:=h;refine ⟨A,_,c,rfl,⟨A,c,rfl,hc,hlt,hA,hat⟩, ?_⟩;cases A with
 |none=>
  have:=hA rfl;have hl:k.length=0:=by omega
  exact absurd (List.length_eq_zero_iff.1 hl) hk
 |some a=>simp
set_option maxRecDepth 20000
set_option maxHeartbeats 8000000
theorem strOf_fold: ∀(l:List Int) (b:ByteArray),(l.foldl (fun r n=>r.push (UInt8.ofNat n.toNat)) b).data.toList=b.data.toList++l.map (fun n=>UInt8.ofNat n.toNat)
 | [],b=>by simp
 |n::r,b=>by
  rw [List.foldl_cons,strOf_fold r];simp
theorem strOf_list (bs:List Nat):(strOf bs).data.toList=bs.map UInt8.ofNat:=by rw [strOf,strOf_fold];simp [Function.comp_def]
theorem ofNat_inj {x y:Nat} (hx:x<256) (hy:y<256) (h:UInt8.ofNat x=UInt8.ofNat y):x=y:=by have:=congrArg UInt8.toNat h;simp only [UInt8.toNat_ofNat'] at this;omega
theorem map_inj: ∀{xs ys:List Nat},(∀x∈xs,x<256)→(∀y∈ys,y<256)→xs.map UInt8.ofNat=ys.map UInt8.ofNat→xs=ys
 | [], [],_,_,_=>rfl
 | [],_::_,_,_,h=>by simp at h
 |_::_, [],_,_,h=>by simp at h
 |x::xs,y::ys,hx,hy,h=>by
  simp only [List.map_cons,List.cons.injEq] at h;rw [ofNat_inj (hx x (by simp)) (hy y (by simp)) h.1,map_inj (fun q hq=>hx q (by simp [hq])) (fun q hq=>hy q (by simp [hq])) h.2]
theorem strOf_eq {xs ys:List Nat} (hx: ∀x∈xs,x<256) (hy: ∀y∈ys,y<256):((strOf xs).toList==(strOf ys).toList)=decide (xs=ys):=by
 rw [ByteArray.toList_eq,ByteArray.toList_eq,strOf_list,strOf_list];by_cases h:xs=ys
 ·subst h;simp
 rw [decide_eq_false h];exact beq_eq_false_iff_ne.2 fun h2=>h (map_inj hx hy h2)
end Go.Proofs.YtkknmpkcfpdllaaGreatDoor.B
