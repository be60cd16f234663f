/- What functions of the program compute, each function once: steps over the model, and the plain law of it. -/
import Derived.Test.YtkknmpkcfpdllaaGreatDoorSLogB
import Derived.Test.YtkknmpkcfpdllaaGreatDoorTFinds
import Derived.Test.YtkknmpkcfpdllaaGreatDoorTCheck
import Derived.Test.YtkknmpkcfpdllaaGreatDoorTFacts
namespace Go.Proofs.YtkknmpkcfpdllaaGreatDoor.B
open Go Go.ChangeMaps
set_option linter.unusedVariables false
set_option linter.unusedSimpArgs false
instance lawfulBA:LawfulBEq ByteArray where
  eq_of_beq {a b} h:=by have h:a.data==b.data:=h;cases a;cases b;simp at h;simp [h]
  rfl {a}:=by show (a.data==a.data)=true;simp
def getS:List (ByteArray×Value)→ByteArray→Option Value
  | [],_=>none
  |(q,v)::r,k=>if q=k then some v else getS r k
def putS:List (ByteArray×Value)→ByteArray→Value→List (ByteArray×Value)
  | [],k,v=> [(k,v)]
  |(q,u)::r,k,v=>if q=k then (k,v)::r else (q,u)::putS r k v
theorem putS_keys: ∀(m:List (ByteArray×Value)) (k:ByteArray) (v:Value),(putS m k v).map (·.1)=if k∈m.map (·.1) then m.map (·.1) else m.map (·.1)++ [k]
  | [],k,v=>by simp [putS]
  |(q,u)::r,k,v=>by
    simp only [putS];by_cases h:q=k
    ·subst h;simp
    ·rw [if_neg h];simp only [List.map_cons,putS_keys r k v,List.mem_cons];by_cases hk:k∈r.map (·.1)
     ·rw [if_pos hk,if_pos (.inr hk)]
     ·rw [if_neg hk,if_neg]
      ·rfl
      ·rintro (e|e)
       ·exact h e.symm
       ·exact hk e
theorem getS_none {m:List (ByteArray×Value)} {k:ByteArray}:getS m k=none↔k ∉ m.map (·.1):=by
  induction m with
  |nil=>simp [getS]
  |cons p r ih=>
    obtain ⟨q,u⟩:=p;simp only [getS,List.map_cons,List.mem_cons,not_or];by_cases h:q=k
    ·subst h;simp
    ·rw [if_neg h,ih];constructor
     ·exact fun h2=>⟨fun e=>h e.symm,h2⟩
     ·exact fun h2=>h2.2
theorem getS_of_mem {m:List (ByteArray×Value)} (hn:(m.map (·.1)).Nodup) {k:ByteArray} {v:Value} (h:(k,v)∈m):getS m k=some v:=by
  induction m with
  |nil=>cases h
  |cons p r ih=>
    obtain ⟨q,u⟩:=p;simp only [List.map_cons,List.nodup_cons] at hn;simp only [getS];rcases List.mem_cons.1 h with h|h
    ·injection h with h1 h2;subst h1;subst h2;rw [if_pos rfl]
    ·rw [if_neg,ih hn.2 h];rintro rfl;exact hn.1 (List.mem_map_of_mem (f:=(·.1)) h)
def entS (p:ByteArray×Value):Value×Value:=(.string p.1,p.2)
structure StrMap (es:Array MapEntry) (clock:Nat) (m:List (ByteArray×Value)):Prop where
  eq:es.toList.map (fun e=>(e.key,e.val))=m.map entS
  nd:(m.map (·.1)).Nodup
  old: ∀e∈es.toList,e.born<clock
  born:(es.toList.map (·.born)).Nodup
theorem StrMap.empty:StrMap #[] 0 []:=⟨rfl,by simp,by simp,by simp⟩
theorem StrMap.size {es:Array MapEntry} {clock:Nat} {m:List (ByteArray×Value)} (h:StrMap es clock m):es.size=m.length:=by have:=congrArg List.length h.eq;simpa using this
def atS:List (ByteArray×Value)→ByteArray→Nat→Option (Nat×Value)
  | [],_,_=>none
  |(q,v)::r,k,i=>if q=k then some (i,v) else atS r k (i+1)
theorem find_str {d:TypeDesc} (hd:d= .string) (k:ByteArray): ∀(es:List MapEntry) (m:List (ByteArray×Value)) (i:Nat),es.map (fun e=>(e.key,e.val))=m.map entS→
    Instr.findNow d (.string k) es i=some (atS m k i)
  | [], [],i,_=>rfl
  | [],_::_,i,h=>by simp at h
  |_::_, [],i,h=>by simp at h
  |e::es,(q,v)::m,i,h=>by
    subst hd;simp only [List.map_cons,List.cons.injEq,entS,Prod.mk.injEq] at h;obtain ⟨⟨h1,h2⟩,h3⟩:=h;simp only [Instr.findNow,h1,h2,Instr.sameNow,if_true,atS];by_cases hk:q=k
    ·subst hk;simp
    ·have:(k==q)=false:=by simpa using fun e=>hk e.symm
     rw [this,if_neg hk];exact find_str rfl k es m (i+1) h3
theorem atS_get: ∀(m:List (ByteArray×Value)) (k:ByteArray) (i:Nat),(atS m k i).map (·.2)=getS m k
  | [],_,_=>rfl
  |(q,v)::r,k,i=>by
    simp only [atS,getS];by_cases h:q=k
    ·rw [if_pos h,if_pos h];rfl
    ·rw [if_neg h,if_neg h];exact atS_get r k (i+1)
theorem atS_spec: ∀(m:List (ByteArray×Value)) (k:ByteArray) (i j:Nat) (v:Value),atS m k i=some (j,v)→i≤j∧m[j - i]? =some (k,v)
  | [],_,_,_,_,h=>by cases h
  |(q,u)::r,k,i,j,v,h=>by
    simp only [atS] at h;split at h
    ·rename_i e;subst e;injection h with h;injection h with h1 h2;subst h1;subst h2
     simp
    ·obtain ⟨h1,h2⟩:=atS_spec r k (i+1) j v h;refine ⟨by omega, ?_⟩;rw [show j - i=(j - (i+1))+1 by omega,List.getElem?_cons_succ];exact h2
section
variable {P:Program} {ops:Array Oper} {Q:Exit→Act→World→Prop} {a:Act} {w0 w w':World} {D:Sto} {ss:List Seg} {o:Oper} {N:Nat} {env:Env} {K:Act→World→Prop}
def strKeyed (P:Program) (t:TypeId):Option TypeId:=match P.underlying t with
  |some (.map k e)=>match P.underlying k with
    |some .string=>some e
    |_=>none
  |_=>none
theorem strKeyed_spec {t e:TypeId} (h:strKeyed P t=some e): ∃k,P.underlying t=some (.map k e)∧P.underlying k=some .string:=by
  unfold strKeyed at h;split at h<;>try cases h
  rename_i k e' hk;split at h<;>try cases h
  rename_i hkd;exact ⟨k,hk,hkd⟩
theorem checkKey_str {k:TypeId} (hk:P.underlying k=some .string) (b:Bool) (n:Nat) (i:ByteArray): ∀w,(Instr.checkKey b (n+1) k (.string i)).run P w= .ok () w:=fun w=>by
  simp [Instr.checkKey,underlying,program,hk,Sem.run]
theorem findKey_str {k:TypeId} (hk:P.underlying k=some .string) {es:Array MapEntry} {clock:Nat} {m:List (ByteArray×Value)} (hm:StrMap es clock m) (i:ByteArray): ∀w,(Instr.findKey k (.string i) es.toList).run P w= .ok (atS m i 0) w:=fun w=>by
  simp [Instr.findKey,underlying,program,hk,Sem.run,find_str rfl i es.toList m 0 hm.eq]
theorem run_lookup_str {t e:TypeId} {b:Nat} {es:Array MapEntry} {clock:Nat} {m:List (ByteArray×Value)} {i:ByteArray} {z:Value} {ok:Bool} (ht:strKeyed P t=some e) (hb:w.heap[b]? =some (.map es clock)) (hm:StrMap es clock m)
    (hz:(P.info? e).bind (·.zero)=some z) :
    (Instr.lookup t (.map (some b)) (.string i) ok).run P w= .ok (if ok then .tuple #[(getS m i).getD z, .bool (getS m i).isSome] else (getS m i).getD z) w:=by
  obtain ⟨k,h1,h2⟩:=strKeyed_spec ht;obtain ⟨inf,hinf,hz'⟩:=Option.bind_eq_some_iff.1 hz;have hg:=atS_get m i 0;cases hat:atS m i 0 with
  |none=>
    rw [hat] at hg;simp only [Option.map_none] at hg;simp [Instr.lookup,run_underlying h1,run_getObj hb rfl,checkKey_str h2,findKey_str h2 hm,hat,zeroValue,typeInfo,hinf,hz',←hg]
  |some q=>
    rw [hat] at hg;simp only [Option.map_some] at hg;simp [Instr.lookup,run_underlying h1,run_getObj hb rfl,checkKey_str h2,findKey_str h2 hm,hat,←hg]
theorem s_lookupY {t e:TypeId} {x y:Operand} {b:Nat} {es:Array MapEntry} {clock:Nat} {m:List (ByteArray×Value)} {i:ByteArray} {z v:Value} (hx:ev env x=some (.map (some b))) (hy:ev env y=some (.string i)) (ht:strKeyed P t=some e)
    (hz:(P.info? e).bind (·.zero)=some z) (hb:w.heap[b]? =some (.map es clock)) (hm:StrMap es clock m) (hg:getS m i=some v):RunOp P env w (.lookup t x y true) (.tuple #[v, .bool true]):=fun _ a o hE ho=>by
  have h:=run_lookup_str (ok:=true) (i:=i) ht hb hm hz;rw [hg] at h;simp only [if_true,Option.getD_some,Option.isSome_some] at h;simp [execOp,ho,hE.eval hx,hE.eval hy,h]
theorem s_lookupN {t e:TypeId} {x y:Operand} {b:Nat} {es:Array MapEntry} {clock:Nat} {m:List (ByteArray×Value)} {i:ByteArray} {z:Value} (hx:ev env x=some (.map (some b))) (hy:ev env y=some (.string i)) (ht:strKeyed P t=some e)
    (hz:(P.info? e).bind (·.zero)=some z) (hb:w.heap[b]? =some (.map es clock)) (hm:StrMap es clock m) (hg:getS m i=none):RunOp P env w (.lookup t x y true) (.tuple #[z, .bool false]):=fun _ a o hE ho=>by
  have h:=run_lookup_str (ok:=true) (i:=i) ht hb hm hz;rw [hg] at h;simp only [if_true,Option.getD_none,Option.isSome_none] at h;simp [execOp,ho,hE.eval hx,hE.eval hy,h]
theorem put_mapS {es:Array MapEntry} {clock:Nat} {m:List (ByteArray×Value)} (hm:StrMap es clock m) (i:ByteArray) (v:Value) :
    (∀j u,atS m i 0=some (j,u)→StrMap (es.modify j fun e=>{e with key:= .string i,val:=v}) clock (putS m i v))∧(atS m i 0=none→StrMap (es.push {key:= .string i,val:=v,born:=clock}) (clock+1) (putS m i v)):=by
  constructor
  ·intro j u hj;obtain ⟨_,hmj⟩:=atS_spec m i 0 j u hj;simp only [Nat.sub_zero] at hmj;have hput: ∀(m:List (ByteArray×Value)) (s:Nat),atS m i s=some (j+s,u)→putS m i v=m.set j (i,v):=by
     clear hmj hj hm;intro m;induction m generalizing j with
     |nil=>intro s h;cases h
     |cons p r ih=>
       intro s h;obtain ⟨q,x⟩:=p;simp only [atS] at h;simp only [putS];split at h
       ·rename_i e;injection h with h;injection h with h1 _
        have:j=0:=by omega
        subst this;rw [if_pos e];rfl
       ·rename_i e;rw [if_neg e];obtain ⟨h1,_⟩:=atS_spec r i (s+1) _ u h;obtain ⟨j',rfl⟩: ∃j',j=j'+1:=⟨j - 1,by omega⟩;rw [ih j' (Nat.zero_le _) (s+1) (by rw [h];congr 2;omega)];rfl
   have hp:=hput m 0 hj;have hlen:=hm.size;have hjl:j<m.length:=(List.getElem?_eq_some_iff.1 hmj).1;have htl:(es.modify j fun e=>{e with key:= .string i,val:=v}).toList=es.toList.set j {(es[j]'(by omega)) with key:= .string i,val:=v}:=by
     apply List.ext_getElem?;intro q;simp only [Array.getElem?_toList,Array.getElem?_modify,List.getElem?_set,Array.length_toList];by_cases hq:j=q
     ·subst hq;simp [hlen,hjl]
     ·simp [hq]
   have hb:((es.toList.set j {(es[j]'(by omega)) with key:= .string i,val:=v}).map (·.born))=es.toList.map (·.born):=by
     rw [List.map_set];apply List.ext_getElem?;intro q;rw [List.getElem?_set];by_cases hq:j=q
     ·subst hq;simp [hlen,hjl]
     ·simp [hq]
   refine ⟨?_, ?_, ?_, ?_⟩
   ·rw [htl,List.map_set,hm.eq,hp,List.map_set];rfl
   ·rw [putS_keys,if_pos]
    ·exact hm.nd
    ·exact List.mem_map.2 ⟨_,List.mem_of_getElem? hmj,rfl⟩
   ·intro e he;rw [htl] at he;have:e.born∈(es.toList.set j {(es[j]'(by omega)) with key:= .string i,val:=v}).map (·.born):=List.mem_map_of_mem he;rw [hb] at this;obtain ⟨e',he',hbe⟩:=List.mem_map.1 this;rw [←hbe];exact hm.old e' he'
   ·rw [htl,hb];exact hm.born
  ·intro hn;have hg:getS m i=none:=by rw [←atS_get m i 0,hn];rfl
   have hk:=getS_none.1 hg;have hp: ∀(m:List (ByteArray×Value)),i ∉ m.map (·.1)→putS m i v=m++ [(i,v)]:=by
     intro m;induction m with
     |nil=>intro _;rfl
     |cons p r ih=>
       intro h;simp only [List.map_cons,List.mem_cons,not_or] at h;obtain ⟨q,x⟩:=p;simp only [putS];rw [if_neg (fun e=>h.1 e.symm),ih h.2];rfl
   refine ⟨?_, ?_, ?_, ?_⟩
   ·rw [hp m hk];simp [hm.eq,entS]
   ·rw [putS_keys,if_neg hk];rw [List.nodup_append];exact ⟨hm.nd,by simp,fun x hx y hy e=>by simp at hy;subst hy;subst e;exact hk hx⟩
   ·intro e he;simp only [Array.toList_push,List.mem_append,List.mem_singleton] at he;rcases he with he|rfl
    ·have:=hm.old e he;omega
    ·simp
   ·simp only [Array.toList_push,List.map_append,List.map_cons,List.map_nil];rw [List.nodup_append];refine ⟨hm.born,by simp,fun x hx y hy e=> ?_⟩;simp at hy;subst hy;subst e;obtain ⟨e',he',hb⟩:=List.mem_map.1 hx;have:=hm.old e' he';omega
theorem run_update_str {t e:TypeId} {b:Nat} {es:Array MapEntry} {clock:Nat} {m:List (ByteArray×Value)} {i:ByteArray} {v:Value} (ht:strKeyed P t=some e) (hb:w.heap[b]? =some (.map es clock)) (hm:StrMap es clock m) :
    ∃es' clock',StrMap es' clock' (putS m i v)∧(Instr.mapUpdate t (.map (some b)) (.string i) v).run P w= .ok () {w with heap:=w.heap.setIfInBounds b (.map es' clock')}:=by
  obtain ⟨k,h1,h2⟩:=strKeyed_spec ht;cases hat:atS m i 0 with
  |none=>
    exact ⟨_,_,(put_mapS hm i v).2 hat,by simp [Instr.mapUpdate,run_underlying h1,run_getObj hb rfl,checkKey_str h2,findKey_str h2 hm,hat,run_setObj hb rfl]⟩
  |some q=>
    obtain ⟨j,u⟩:=q;obtain ⟨_,hmj⟩:=atS_spec m i 0 j u hat;simp only [Nat.sub_zero] at hmj;have hjl:j<m.length:=(List.getElem?_eq_some_iff.1 hmj).1;have hkey:((es[j]?).map (·.key)).getD (.string i)= .string i:=by
      have h3:(es.toList.map (fun e=>(e.key,e.val)))[j]? =some (.string i,u):=by rw [hm.eq,List.getElem?_map,hmj];rfl
      rw [List.getElem?_map] at h3;cases h4:es[j]? with
      |none=>rfl
      |some x=>
        rw [Array.getElem?_toList,h4] at h3;simp at h3;simp [h3.1]
    have hstay: ∀w,(Instr.keyThatStays (.string i) (.string i)).run P w= .ok (.string i) w:=fun w=>by
      simp [Instr.keyThatStays,Instr.sameBits]
    exact ⟨_,_,(put_mapS hm i v).1 j u hat,by simp [Instr.mapUpdate,run_underlying h1,run_getObj hb rfl,checkKey_str h2,findKey_str h2 hm,hat,hkey,hstay,run_setObj hb rfl]⟩
theorem so_mapUpdate {t e:TypeId} {x y u:Operand} {b:Nat} {es:Array MapEntry} {clock:Nat} {m:List (ByteArray×Value)} {i:ByteArray} {v:Value} (j:Nat) (hE:EnvOk N env a) (hI:Inv w0 D ss w) (hd:o.dst=none)
    (ho:o.op= .mapUpdate t x y u∨o.op= .insert t x y u) (hx:ev env x=some (.map (some b))) (hy:ev env y=some (.string i)) (hu:ev env u=some v) (ht:strKeyed P t=some e) (hj:ss[j]? =some [(b, .map es clock)]) (hm:StrMap es clock m)
    (k: ∀es' clock' w',StrMap es' clock' (putS m i v)→Inv w0 D (ss.set j [(b, .map es' clock')]) w'→K a w'):o.wp P a w K Q:=by
  have hb:=hI.seg j hj;obtain ⟨es',clock',hm',hr⟩:=run_update_str (P:=P) (i:=i) (v:=v) ht hb hm;have hrun:(execOp a.eval o).run P w= .ok .skip {w with heap:=w.heap.setIfInBounds b (.map es' clock')}:=by rcases ho with ho|ho<;>simp [execOp,ho,hE.eval hx,hE.eval hy,hE.eval hu,hr]
  refine o_skip hrun ?_;rw [hd];exact k _ _ _ hm' (hI.turn_at j hj)
structure VisS (es:Array MapEntry) (seen:Array Nat) (m vis:List (ByteArray×Value)):Prop where
  sub: ∀p∈vis,p∈m
  nd:(vis.map (·.1)).Nodup
  iff: ∀e∈es.toList,∀p,(e.key,e.val)=entS p→(seen.contains e.born=true↔p∈vis)
def LastS (es:Array MapEntry) (seen:Array Nat) (p:ByteArray×Value):Prop:= ∃e∈es.toList,seen.back? =some e.born∧(e.key,e.val)=entS p
theorem VisS.start (es:Array MapEntry) (m:List (ByteArray×Value)):VisS es #[] m []:=⟨by simp,by simp,fun e _ p _=>by simp⟩
theorem so_next {d:Nat} {x:Operand} {b r:Nat} {es:Array MapEntry} {clock:Nat} {m vis:List (ByteArray×Value)} {seen:Array Nat} (j q:Nat) (hE:EnvOk N env a) (hI:Inv w0 D ss w) (hd:o.dst=some d) (hN:Nat.blt d N=true) (ho:o.op= .next x false)
    (hx:ev env x=some (.pointer (some ⟨r,0,none⟩))) (hj:ss[j]? =some [(b, .map es clock)]) (hq:ss[q]? =some [(r, .mapIter (some b) clock seen clock)]) (hm:StrMap es clock m) (hv:VisS es seen m vis)
    (over:(∀p∈m,p∈vis)→ ∀a',EnvOk N ((d, .tuple #[.bool false])::env) a'→K a' w)
    (step: ∀p,p∈m→p ∉ vis→ ∀seen' w',VisS es seen' m (p::vis)→LastS es seen' p→Inv w0 D (ss.set q [(r, .mapIter (some b) clock seen' clock)]) w'→
      ∀a',EnvOk N ((d, .tuple #[.bool true, .string p.1,p.2])::env) a'→K a' w'):o.wp P a w K Q:=by
  have hb:=hI.seg j hj;have hr:=hI.seg q hq;have hent: ∀e∈es.toList,∃p,p∈m∧(e.key,e.val)=entS p:=by intro e he;have h1:(e.key,e.val)∈es.toList.map (fun e=>(e.key,e.val)):=List.mem_map_of_mem (f:=fun e=>(e.key,e.val)) he;rw [hm.eq] at h1;obtain ⟨p,hp,hpe⟩:=List.mem_map.1 h1;exact ⟨p,hp,hpe.symm⟩
  have hmem: ∀p∈m,∃e∈es.toList,(e.key,e.val)=entS p:=by intro p hp;have h1:entS p∈m.map entS:=List.mem_map_of_mem hp;rw [←hm.eq] at h1;obtain ⟨e,he,hee⟩:=List.mem_map.1 h1;exact ⟨e,he,hee⟩
  have einj: ∀p p':ByteArray×Value,entS p=entS p'→p=p':=by intro p p' h;simp only [entS,Prod.mk.injEq,Value.string.injEq] at h;exact Prod.ext h.1 h.2
  rcases run_next_at (P:=P) w o.type r b clock clock seen es clock hr hb hm.old (Nat.le_refl _) with ⟨h0,hrun⟩|⟨e,he,w1,hw1,hrun⟩
  ·have hrun':(execOp a.eval o).run P w= .ok (.value (.tuple #[.bool false])) w:=by simp [execOp,ho,hE.eval hx,hrun]
   have hall: ∀p∈m,p∈vis:=fun p hp=>by
     obtain ⟨e,he,hee⟩:=hmem p hp;refine (hv.iff e he p hee).1 ?_;have hl:leftOf es seen= #[]:=Array.eq_empty_of_size_eq_zero h0;unfold leftOf at hl;rw [Array.filter_eq_empty_iff] at hl;have:=hl e (by simpa using he);simpa using this
   exact o_val hrun' (by rw [hd];exact over hall _ (hE.put hN _))
  ·have hrun':(execOp a.eval o).run P w= .ok (.value (.tuple #[.bool true,e.key,e.val])) (setBlock w1 r (.mapIter (some b) clock (seen.push e.born) clock)):=by simp [execOp,ho,hE.eval hx,hrun]
   have he':e∈es.toList∧seen.contains e.born=false:=by unfold leftOf at he;simp only [Array.toList_filter,List.mem_filter,Bool.not_eq_true'] at he;exact he
   obtain ⟨p,hp,hpe⟩:=hent e he'.1;have hnv:p ∉ vis:=fun h=>by
     have:=(hv.iff e he'.1 p hpe).2 h;rw [he'.2] at this;cases this
   have hI1:Inv w0 D ss w1:=by
     rcases hw1 with rfl|rfl
     ·exact hI
     ·exact hI.drawn _
   have hkv:e.key= .string p.1∧e.val=p.2:=by simpa [entS] using hpe
   refine o_val hrun' ?_;rw [hd,hkv.1,hkv.2];refine step p hp hnv (seen.push e.born) _ ⟨?_, ?_, ?_⟩ ⟨e,he'.1,by simp,hpe⟩ (hI1.turn_at q hq) _ (hE.put hN _)
   ·intro x hx';rcases List.mem_cons.1 hx' with rfl|hx'
    ·exact hp
    ·exact hv.sub x hx'
   ·simp only [List.map_cons,List.nodup_cons];refine ⟨fun hmem'=> ?_,hv.nd⟩;obtain ⟨y,hy,hye⟩:=List.mem_map.1 hmem';have h1:=getS_of_mem hm.nd (hv.sub y hy);have h2:=getS_of_mem hm.nd hp;rw [hye] at h1;rw [h1] at h2;injection h2 with h2
    have hyp:y=p:=Prod.ext hye h2;exact hnv (hyp▸hy)
   ·intro e2 he2 p2 hpe2;rw [Array.contains_push];simp only [Bool.or_eq_true,beq_iff_eq,List.mem_cons];constructor
    ·rintro (h|h)
     ·right;exact (hv.iff e2 he2 p2 hpe2).1 h
     ·left;have hee:e2=e:=by
        have:=find_born e2 es.toList hm.born he2;have h3:=find_born e es.toList hm.born he'.1;rw [h] at this;rw [this] at h3;exact Option.some.inj h3
      subst hee;exact einj _ _ (hpe2.symm.trans hpe)
    ·rintro (h|h)
     ·right;subst h;have h1: ∀(l:List MapEntry) (m:List (ByteArray×Value)),l.map (fun e=>(e.key,e.val))=m.map entS→(m.map (·.1)).Nodup→e∈l→e2∈l→e2=e:=by
        intro l;induction l with
        |nil=>intro m _ _ h;cases h
        |cons x l ih=>
          intro m h hn h1 h2;cases m with
          |nil=>simp at h
          |cons y m=>
            simp only [List.map_cons,List.cons.injEq,List.nodup_cons] at h hn;have no: ∀z∈l,(z.key,z.val)=entS p2→(x.key,x.val)=entS p2→False:=by intro z hz h3 h4;have h5:(z.key,z.val)∈l.map (fun e=>(e.key,e.val)):=List.mem_map_of_mem (f:=fun e=>(e.key,e.val)) hz;rw [h.2,h3] at h5;obtain ⟨y',hy',hy2⟩:=List.mem_map.1 h5;rw [einj _ _ hy2] at hy';rw [h.1] at h4;rw [einj _ _ h4] at hn;exact hn.1 (List.mem_map_of_mem (f:=(·.1)) hy')
            rcases List.mem_cons.1 h1 with g1|g1<;>rcases List.mem_cons.1 h2 with g2|g2
            ·rw [g1,g2]
            ·exact (no _ g2 hpe2 (by rw [←g1];exact hpe)).elim
            ·exact (no _ g1 hpe (by rw [←g2];exact hpe2)).elim
            ·exact ih m h.2 hn.2 g1 g2
      exact congrArg _ (h1 es.toList m hm.eq hm.nd he'.1 he2)
     ·left;exact (hv.iff e2 he2 p2 hpe2).2 h
theorem sr_entry {x:Operand} {b r clock:Nat} {es:Array MapEntry} {m:List (ByteArray×Value)} {seen:Array Nat} {p:ByteArray×Value} (hx:ev env x=some (.pointer (some ⟨r,0,none⟩))) (hb:w.heap[b]? =some (.map es clock))
    (hr:w.heap[r]? =some (.mapIter (some b) clock seen clock)) (hm:StrMap es clock m) (hl:LastS es seen p):RunOp P env w (.entry x) (.tuple #[.string p.1,p.2]):=fun _ a o hE ho=>by
  obtain ⟨e,he,hbk,hpe⟩:=hl;have hkv:e.key= .string p.1∧e.val=p.2:=by simpa [entS] using hpe
  have hf:es.find? (·.born==e.born)=some e:=by rw [←Array.find?_toList];exact find_born e es.toList hm.born he
  have hrun:(Instr.entry (.pointer (some ⟨r,0,none⟩))).run P w= .ok (.tuple #[e.key,e.val]) w:=by simp [Instr.entry,run_getObj hr rfl,run_getObj hb rfl,hbk,hf]
  simp [execOp,ho,hE.eval hx,hrun,hkv.1,hkv.2]
end
open Go Go.Proofs
theorem strOf_foldl: ∀(bs:List Nat) (acc:ByteArray),((bs.map (fun x=>((x:Nat):Int))).foldl (fun r n=>r.push (UInt8.ofNat n.toNat)) acc)=⟨acc.data++(bs.map UInt8.ofNat).toArray⟩
 | [],acc=>by simp
 |x::r,acc=>by
  rw [List.map_cons,List.foldl_cons,strOf_foldl r];simp [ByteArray.push]
theorem strOf_is (bs:List Nat):strOf bs=⟨(bs.map UInt8.ofNat).toArray⟩:=by rw [strOf,strOf_foldl];simp
theorem strOf_inj {a b:List Nat} (ha: ∀x∈a,x<256) (hb: ∀x∈b,x<256) (h:strOf a=strOf b):a=b:=by
 rw [strOf_is,strOf_is] at h;injection h with h
 have h:a.map UInt8.ofNat=b.map UInt8.ofNat:=by simpa using h
 have inv: ∀l:List Nat,(∀x∈l,x<256)→(l.map UInt8.ofNat).map UInt8.toNat=l:=fun l hl=>by
  rw [List.map_map]
  conv=>rhs;rw [←List.map_id l]
  refine List.map_congr_left fun x hx=> ?_;have:=hl x hx;simp only [Function.comp_apply,UInt8.toNat_ofNat',id_eq];omega
 rw [←inv a ha,←inv b hb,h]
structure Opn where
 n:Nat
 old:List Ent
 bo:Nat
structure Db where
 epoch:Int
 begun:Int
 seq:Int
 l:List (Int×Opn)
def OldR (D:Sto):List (ByteArray×Value)→List Ent→Prop
 | [], []=>True
 |(s,v)::m,e::l=>s=strOf e.key∧(∃vs,v= .agg vs.toArray∧UeR D vs e)∧OldR D m l
 |_,_=>False
theorem OldR.mono {D D':Sto}: ∀{m:List (ByteArray×Value)} {l:List Ent},OldR D m l→Le D D'→OldR D' m l
 | [], [],_,_=>trivial
 |(s,v)::m,e::l,⟨h1,⟨vs,h2,h3⟩,h4⟩,hD=>⟨h1,⟨vs,h2,UeR.keeps D D' vs e hD h3⟩,h4.mono hD⟩
 | [],_::_,h,_=>h.elim
 |_::_, [],h,_=>h.elim
def lookO (l:List Ent) (key:Bs):Option Ent:=l.find? fun e=>decide (e.key=key)
def Byt (bs:Bs):Prop:= ∀x∈bs,x<256
theorem RB.byt {D:Sto} {v:Value} {bs:Bs} (h:RB D v bs):Byt bs:=by obtain ⟨A,c,_,_,h3,_⟩:=h;exact h3
theorem UeR.byt {D:Sto} {vs:List Value} {e:Ent} (h:UeR D vs e):Byt e.key:=by obtain ⟨k,v,_,h1,_⟩:=h;exact h1.byt
theorem OldR.look {D:Sto} {key:Bs} (hk:Byt key): ∀{m:List (ByteArray×Value)} {l:List Ent},OldR D m l→
    (match lookO l key with
     |none=>getS m (strOf key)=none
     |some e=>e.key=key∧e∈l∧ ∃vs,getS m (strOf key)=some (.agg vs.toArray)∧UeR D vs e)
  | [], [],_=>rfl
  |(s,v)::m,e::l,⟨h1,⟨vs,h2,h3⟩,h4⟩=>by
    have ih:=OldR.look hk h4;unfold lookO at ih ⊢;rw [List.find?_cons];by_cases he:e.key=key
    ·subst h1;subst h2;rw [decide_eq_true he];simp only [getS];rw [if_pos (by rw [he])];exact ⟨he,by simp,vs,rfl,h3⟩
    rw [decide_eq_false he];simp only [getS];rw [if_neg (by rw [h1];intro q;exact he (strOf_inj h3.byt hk q))];cases hf:List.find? (fun e=>decide (e.key=key)) l with
    |none=>rw [hf] at ih;exact ih
    |some x=>rw [hf] at ih;obtain ⟨a,b,c⟩:=ih;exact ⟨a,by simp [b],c⟩
  | [],_::_,h=>h.elim
  |_::_, [],h=>h.elim
def OpS (D:Sto) (o:Opn) (s:Seg):Prop:= ∃bm es clk m,s= [(o.bo, .cells #[.int .i64 (o.n:Nat), .map (some bm)] 179 (0,0)),(bm, .map es clk)]∧StrMap es clk m∧OldR D m o.old
def OpsS (D:Sto):List (Int×Opn)→List Seg→Prop
 | [], []=>True
 |p::l,s::ss=>OpS D p.2 s∧OpsS D l ss
 |_,_=>False
theorem OpS.mono {D D':Sto} {o:Opn} {s:Seg} (h:OpS D o s) (hD:Le D D'):OpS D' o s:=by obtain ⟨bm,es,clk,m,h1,h2,h3⟩:=h;exact ⟨bm,es,clk,m,h1,h2,h3.mono hD⟩
theorem OpsS.mono {D D':Sto}: ∀{l:List (Int×Opn)} {ss:List Seg},OpsS D l ss→Le D D'→OpsS D' l ss
 | [], [],_,_=>trivial
 |p::l,s::ss,⟨h1,h2⟩,hD=>⟨h1.mono hD,h2.mono hD⟩
 | [],_::_,h,_=>h.elim
 |_::_, [],h,_=>h.elim
def ptrOf (p:Int×Opn):Int×Value:=(p.1, .pointer (some ⟨p.2.bo,0,none⟩))
def DbS (D:Sto) (vd vp:Value) (d:Db) (s:Seg):Prop:= ∃bd bl es clk os,vd= .pointer (some ⟨bd,0,none⟩)∧
 s=(bd, .cells #[.int .i64 d.epoch,vp, .int .i64 d.begun, .map (some bl), .int .i64 d.seq] 175 (0,0))::(bl, .map es clk)::os.flatten∧IntMap es clk (d.l.map ptrOf)∧OpsS D d.l os
theorem DbS.mono {D D':Sto} {vd vp:Value} {d:Db} {s:Seg} (h:DbS D vd vp d s) (hD:Le D D'):DbS D' vd vp d s:=by obtain ⟨bd,bl,es,clk,os,h1,h2,h3,h4⟩:=h;exact ⟨bd,bl,es,clk,os,h1,h2,h3,h4.mono hD⟩
theorem DbS.ptr {D:Sto} {vd vp:Value} {d:Db} {s:Seg} (h:DbS D vd vp d s): ∃bd,vd= .pointer (some ⟨bd,0,none⟩):=by obtain ⟨bd,_,_,_,_,h1,_⟩:=h;exact ⟨bd,h1⟩
theorem Inv.mem {w0 w:World} {D:Sto} {ss:List Seg} {s:Seg} {b:Nat} {o:Obj} (h:Inv w0 D (s::ss) w) (hm:(b,o)∈s):w.heap[b]? =some o:=by
 obtain ⟨l1,l2,rfl⟩:=List.append_of_mem hm;have h2:Inv w0 D ([(b,o)]::(l1++l2)::ss) w:=h.perm (by
  simp only [List.flatten_cons,List.singleton_append,List.cons_append,List.append_assoc,List.nil_append];exact List.perm_middle.symm)
 exact h2.seg 0 rfl
set_option maxRecDepth 20000
set_option maxHeartbeats 8000000
theorem putM_new {k:Int} {v:Value}: ∀{m:List (Int×Value)},k ∉ m.map (·.1)→putM m k v=m++ [(k,v)]
 | [],_=>rfl
 |(q,x)::r,h=>by
  simp only [List.map_cons,List.mem_cons,not_or] at h;simp only [putM];rw [if_neg (fun e=>h.1 e.symm),putM_new h.2];rfl
theorem OpsS.add {D:Sto} {p:Int×Opn} {s:Seg} (h:OpS D p.2 s): ∀{l:List (Int×Opn)} {os:List Seg},OpsS D l os→OpsS D (l++ [p]) (os++ [s])
 | [], [],_=>⟨h,trivial⟩
 |_::l,_::os,⟨h1,h2⟩=>⟨h1,OpsS.add h h2⟩
 | [],_::_,h=>h.elim
 |_::_, [],h=>h.elim
theorem Inv.newopen {w0 w:World} {D:Sto} {ss:List Seg} {x1 x2 n1 n2:Nat×Obj} {os:List Seg} (h:Inv w0 D ([x1]:: [x2]:: [n1]:: [n2]::os.flatten::ss) w):Inv w0 D ((x1::x2::(os++ [[n1,n2]]).flatten)::ss) w:=h.perm (by
 simp only [List.flatten_cons,List.flatten_append,List.flatten_nil,List.append_nil,List.singleton_append,List.cons_append,List.nil_append,List.append_assoc];exact (((List.perm_append_comm_assoc [n1,n2] os.flatten ss.flatten).cons x2).cons x1).symm)
theorem Inv.open_db {w0 w:World} {D:Sto} {ss:List Seg} {x1 x2:Nat×Obj} {t:Seg} (h:Inv w0 D ((x1::x2::t)::ss) w):Inv w0 D ([x1]:: [x2]::t::ss) w:=h.perm (List.Perm.of_eq (by simp))
theorem Inv.shut_db {w0 w:World} {D:Sto} {ss:List Seg} {x1 x2:Nat×Obj} {t:Seg} (h:Inv w0 D ([x1]:: [x2]::t::ss) w):Inv w0 D ((x1::x2::t)::ss) w:=h.perm (List.Perm.of_eq (by simp))
structure DbOk (d:Db):Prop where
 e0:0≤d.epoch
 e1:d.epoch≤1073741824
 b0:0≤d.begun
 b1:d.begun<1048576
 s0:0≤d.seq
 s1:d.seq≤1000000000000
 ids: ∀p∈d.l,d.epoch*1048576<p.1∧p.1≤d.epoch*1048576+d.begun
 len:d.l.length≤16
def Db.room (d:Db):Bool:=decide (d.l.length<16∧d.begun+1<1048576)
def Db.next (d:Db):Int:=d.epoch*1048576+(d.begun+1)
def Db.begin (d:Db) (bo:Nat):Db:={d with begun:=d.begun+1,seq:=d.seq+1,l:=d.l++ [(d.next,⟨0, [],bo⟩)]}
theorem Db.fresh {d:Db} (h:DbOk d):d.next ∉ (d.l.map ptrOf).map (·.1):=by intro hm;simp only [List.map_map,List.mem_map,Function.comp_apply,ptrOf] at hm;obtain ⟨p,hp,he⟩:=hm;have:=(h.ids p hp).2;unfold Db.next at he;omega
theorem DbOk.begin {d:Db} (h:DbOk d) (hr:d.room=true) (bo:Nat) (hs:d.seq+1≤1000000000000):DbOk (d.begin bo):=by
 simp only [Db.room,decide_eq_true_eq] at hr;refine ⟨h.e0,h.e1,by have:=h.b0;show 0≤d.begun+1;omega,hr.2,by have:=h.s0;show 0≤d.seq+1;omega,hs,fun p hp=> ?_,by show (d.l++_).length≤16;simp;omega⟩;have hb:=h.b0;rcases List.mem_append.1 hp with q|q
 ·have:=h.ids p q;exact ⟨this.1,by show p.1≤d.epoch*1048576+(d.begun+1);omega⟩
 simp only [List.mem_singleton] at q;subst q;exact ⟨by show _<d.next;unfold Db.next;show d.epoch*1048576<_;omega,by show d.next≤_;unfold Db.next;exact Int.le_refl _⟩
theorem TxNew_spec {w0 w:World} {D:Sto} {ss:List Seg} (hI:Inv w0 D ss w) {ad:Nat→Addr} (hS:TSents D ad) (e:Int) {q:Nat} :
  Calls Tryz.prog 99 #[.int .i64 e, .pointer (some ⟨q,0,none⟩)] w (Ret fun r w'=>(¬(0≤e∧e≤1073741824)∧r= .tuple #[.pointer none,errV ad 105]∧Inv w0 D ss w')∨((0≤e∧e≤1073741824)∧ ∃vd s,r= .tuple #[vd, .nilIface]∧DbS D vd (.pointer (some ⟨q,0,none⟩)) ⟨e,0,0, []⟩ s∧Inv w0 D (s::ss) w')):=by
 refine enter (N:=18) Tryz.func99 rfl rfl rfl ?_;intro a hE;refine go 7 hE hI ?_;clear hE a;intro a hE;refine l_step rfl (o_cmp hE rfl rfl rfl rfl rfl rfl ?_ ?_)
 ·intro he0;replace he0:=lss_t he0;clear hE a;intro a hE;refine go 6 hE hI ?_;clear hE a;intro a hE;refine wp_seq ?_;refine d_start [] [] (by kernel_rfl) hI rfl rfl ?_;clear hI w;intro w hI;obtain ⟨T_1,fr_1,hg_1⟩:=hS.g105;refine dl 0 hE rfl (fun w hS=>f_load rfl scal_38 (Inv.data hS _ _ (hg_1)) rfl) (hI) (listed':= #[true,false,false]) ?_;clear hE a;intro a hE;refine dp 1 hE rfl (p_assign rfl) (fun _=>hI) ?_;clear hE a;intro a hE;refine dp 2 hE rfl (p_assign rfl) (fun _=>hI) ?_;clear hE a;intro a hE;refine d_done (by kernel_rfl) ?_;refine gc 3 hE ?_;refine ret2 rfl hE rfl rfl ?_;exact .inl ⟨by omega,rfl,hI⟩
 intro he0;replace he0:=lss_f he0;clear hE a;intro a hE;refine go 2 hE hI ?_;clear hE a;intro a hE;refine l_go hE rfl (o_cmp hE rfl rfl rfl rfl rfl rfl ?_ ?_)
 ·intro he1;replace he1:=gtr_t he1;clear hE a;intro a hE;refine go 3 hE hI ?_;clear hE a;intro a hE;refine wp_seq ?_;refine d_start [] [] (by kernel_rfl) hI rfl rfl ?_;clear hI w;intro w hI;obtain ⟨T_2,fr_2,hg_2⟩:=hS.g105;refine dl 0 hE rfl (fun w hS=>f_load rfl scal_38 (Inv.data hS _ _ (hg_2)) rfl) (hI) (listed':= #[true,false,false]) ?_;clear hE a;intro a hE;refine dp 1 hE rfl (p_assign rfl) (fun _=>hI) ?_;clear hE a;intro a hE;refine dp 2 hE rfl (p_assign rfl) (fun _=>hI) ?_;clear hE a;intro a hE;refine d_done (by kernel_rfl) ?_;refine gc 3 hE ?_;refine ret2 rfl hE rfl rfl ?_;exact .inl ⟨by omega,rfl,hI⟩
 intro he1;replace he1:=gtr_f he1;clear hE a;intro a hE;refine go 8 hE hI ?_;clear hE a;intro a hE;refine l_step rfl (f_makeMap hE hI rfl rfl rfl ?_);clear hI hE a w;intro a b3 w hE hI;refine zs hE (f_build (vs:= [(0,_),(1,_),(3,_)]) (l:= [_,_,_,_,_]) rfl built_175 rfl) ?_;clear hE a;intro a hE;refine l_step rfl (f_box (cs:= #[_,_,_,_,_]) hE hI rfl rfl rfl rfl rfl ?_);clear hI hE a w;intro a b4 w hE hI;refine go 4 hE hI ?_;clear hE a;intro a hE;refine ret2 rfl hE rfl rfl ?_;exact .inr ⟨by omega,_,_,rfl,⟨_,b3, #[],0, [],rfl,rfl,IntMap.empty,trivial⟩,Inv.shut_db (t:= []) (hI.perm (List.Perm.of_eq (by simp)))⟩
theorem Begin_spec {w0 w:World} {D:Sto} {ss:List Seg} {s:Seg} {vd vp:Value} {d:Db} (hI:Inv w0 D (s::ss) w) {ad:Nat→Addr} (hS:TSents D ad) (hd:DbS D vd vp d s) (hdb:DbOk d) :
  Calls Tryz.prog 47 #[vd] w (Ret fun r w'=>(d.room=false∧r= .tuple #[.int .i64 0,errV ad 109]∧DbS D vd vp d s∧Inv w0 D (s::ss) w')∨(d.room=true∧ ∃bo s',r= .tuple #[.int .i64 d.next, .nilIface]∧DbS D vd vp (d.begin bo) s'∧Inv w0 D (s'::ss) w')):=by
 have hdb9:=hdb;have hfr:=Db.fresh hdb;have hll:((d.l.map ptrOf).length:Int)=d.l.length:=by simp
 obtain ⟨bd,bl,esl,clkl,os,rfl,rfl,hml,hos⟩:=hd;obtain ⟨e0,e1,b0,b1,s0,s1,hids,hlen⟩:=hdb;replace hI:=hI.open_db;refine enter (N:=53) Tryz.func47 rfl rfl rfl ?_;intro a hE;refine go 7 hE hI ?_;clear hE a;intro a hE;refine zs hE (p_nilCheck rfl) ?_;clear hE a;intro a hE;refine go 2 hE hI ?_;clear hE a;intro a hE;refine zl hE (r_lenM rfl rfl Tryz.underlying173 (hI.seg 1 rfl) hml) ?_;clear hE a;intro a hE;refine l_step rfl (o_cmp hE rfl rfl rfl rfl rfl rfl ?_ ?_)
 ·intro hfull;replace hfull:=geq_t hfull;clear hE a;intro a hE;refine go 10 hE hI ?_;clear hE a;intro a hE;refine wp_seq ?_;refine d_start [] [] (by kernel_rfl) hI rfl rfl ?_;clear hI w;intro w hI;obtain ⟨T_1,fr_1,hg_1⟩:=hS.g109;refine dl 0 hE rfl (fun w hS=>f_load rfl scal_38 (Inv.data hS _ _ (hg_1)) rfl) (hI) (listed':= #[true,false,false]) ?_;clear hE a;intro a hE;refine dp 1 hE rfl (p_assign rfl) (fun _=>hI) ?_;clear hE a;intro a hE;refine dp 2 hE rfl (p_assign rfl) (fun _=>hI) ?_;clear hE a;intro a hE;refine d_done (by kernel_rfl) ?_;refine gc 3 hE ?_;refine ret2 rfl hE rfl rfl ?_;exact .inl ⟨by simp only [Db.room,decide_eq_false_iff_not];omega,rfl,⟨bd,bl,_,_,os,rfl,rfl,hml,hos⟩,hI.shut_db⟩
 intro hfull;replace hfull:=geq_f hfull;clear hE a;intro a hE;refine go 2 hE hI ?_;clear hE a;intro a hE;refine gs hE (p_nilCheck rfl) ?_;clear hE a;intro a hE;refine go 2 hE hI ?_;clear hE a;intro a hE;refine gs hE (p_arith (z:=d.begun+1) rfl rfl (add_z rfl (by omega) (by omega))) ?_;clear hE a;intro a hE;refine l_go hE rfl (o_cmp hE rfl rfl rfl rfl rfl rfl ?_ ?_)
 ·intro hmany;replace hmany:=geq_t hmany;clear hE a;intro a hE;refine go 3 hE hI ?_;clear hE a;intro a hE;refine wp_seq ?_;refine d_start [] [] (by kernel_rfl) hI rfl rfl ?_;clear hI w;intro w hI;obtain ⟨T_2,fr_2,hg_2⟩:=hS.g109;refine dl 0 hE rfl (fun w hS=>f_load rfl scal_38 (Inv.data hS _ _ (hg_2)) rfl) (hI) (listed':= #[true,false,false]) ?_;clear hE a;intro a hE;refine dp 1 hE rfl (p_assign rfl) (fun _=>hI) ?_;clear hE a;intro a hE;refine dp 2 hE rfl (p_assign rfl) (fun _=>hI) ?_;clear hE a;intro a hE;refine d_done (by kernel_rfl) ?_;refine gc 3 hE ?_;refine ret2 rfl hE rfl rfl ?_;exact .inl ⟨by simp only [Db.room,decide_eq_false_iff_not];omega,rfl,⟨bd,bl,_,_,os,rfl,rfl,hml,hos⟩,hI.shut_db⟩
 intro hmany;replace hmany:=geq_f hmany;clear hE a;intro a hE;refine go 7 hE hI ?_;clear hE a;intro a hE;refine zs hE (p_nilCheck rfl) ?_;clear hE a;intro a hE;refine go 2 hE hI ?_;clear hE a;intro a hE;refine zs hE (p_arith (z:=d.begun+1) rfl rfl (add_z rfl (by omega) (by omega))) ?_;clear hE a;intro a hE;refine zs hE (p_nilCheck rfl) ?_;clear hE a;intro a hE;refine zs hE (p_fieldAddr (m:=2) rfl fo_175_2 rfl) ?_;clear hE a;intro a hE;refine l_step rfl (f_store (l:= [_,_,_,_,_]) (ss':=_::_) 0 hE hI rfl rfl rfl rfl rfl sz_3 (by simp [Value.cells,Value.oneCell',pgCells,rcCells,zPg,errV]) rfl rfl rfl ?_);clear hI w;intro w hI;refine go 3 hE hI ?_;clear hE a;intro a hE;refine zs hE (p_nilCheck rfl) ?_;clear hE a;intro a hE;refine go 2 hE hI ?_;clear hE a;intro a hE;refine zs hE (p_arith (z:=d.seq+1) rfl rfl (add_z rfl (by omega) (by omega))) ?_;clear hE a;intro a hE;refine zs hE (p_nilCheck rfl) ?_;clear hE a;intro a hE;refine zs hE (p_fieldAddr (m:=4) rfl fo_175_4 rfl) ?_;clear hE a;intro a hE;refine l_step rfl (f_store (l:= [_,_,_,_,_]) (ss':=_::_) 0 hE hI rfl rfl rfl rfl rfl sz_3 (by simp [Value.cells,Value.oneCell',pgCells,rcCells,zPg,errV]) rfl rfl rfl ?_);clear hI w;intro w hI;refine wnt ?_;refine wp_seq ?_;refine d_start [] [] (by kernel_rfl) hI rfl rfl ?_;clear hI w;intro w hI;refine dp 0 hE rfl (p_move rfl) (fun _=>hI) (listed':= #[true,false,false,false,false,false,false,false,false,false,false]) ?_;clear hE a;intro a hE;refine dp 1 hE rfl (p_nilCheck rfl) (fun _=>hI) ?_;clear hE a;intro a hE;refine dp 2 hE rfl (p_fieldAddr (m:=0) rfl fo_175_0 rfl) (fun _=>hI) ?_;clear hE a;intro a hE;refine dl 3 hE rfl (fun w hS=>f_load rfl scal_3 (Inv.seg 0 hS rfl) rfl) (hI) ?_;clear hE a;intro a hE;refine dp 4 hE rfl (p_arith (z:=d.epoch*1048576) rfl rfl (mul_z rfl (by omega) (by omega))) (fun _=>hI) ?_;clear hE a;intro a hE;refine dp 5 hE rfl (p_move rfl) (fun _=>hI) ?_;clear hE a;intro a hE;refine dp 6 hE rfl (p_nilCheck rfl) (fun _=>hI) ?_;clear hE a;intro a hE;refine dp 7 hE rfl (p_fieldAddr (m:=2) rfl fo_175_2 rfl) (fun _=>hI) ?_;clear hE a;intro a hE;refine dl 8 hE rfl (fun w hS=>f_load rfl scal_3 (Inv.seg 0 hS rfl) rfl) (hI) ?_;clear hE a;intro a hE;refine dp 9 hE rfl (p_arith (z:=d.next) rfl rfl (add_z rfl (by unfold Db.next;omega) (by unfold Db.next;omega))) (fun _=>hI) ?_;clear hE a;intro a hE;refine dp 10 hE rfl (p_assign rfl) (fun _=>hI) ?_;clear hE a;intro a hE;refine d_done (by kernel_rfl) ?_;refine go 3 hE hI ?_;clear hE a;intro a hE;refine zs hE (p_nilCheck rfl) ?_;clear hE a;intro a hE;refine go 3 hE hI ?_;clear hE a;intro a hE;refine l_step rfl (f_makeMap hE hI rfl rfl rfl ?_);clear hI hE a w;intro a b3 w hE hI;refine zs hE (f_build (vs:= [(1,_)]) (l:= [_,_]) rfl built_179 rfl) ?_;clear hE a;intro a hE;refine l_step rfl (f_box (cs:= #[_,_]) hE hI rfl rfl rfl rfl rfl ?_);clear hI hE a w;intro a b4 w hE hI;refine l_step rfl (o_mapUpdate 3 hE hI rfl (.inl rfl) rfl rfl rfl ik_173 rfl hml ?_);clear hI w;intro es_5 clk_5 w hm_5 hI;refine go 7 hE hI ?_;clear hE a;intro a hE;refine ret2 rfl hE rfl rfl ?_;replace hI:=hI.bring 4;replace hI:=hI.bring 2;replace hI:=hI.bring 2;replace hI:=hI.bring 4;replace hI:=hI.bring 4;refine .inr ⟨by simp only [Db.room,decide_eq_true_eq];omega,_,_,rfl,⟨bd,bl,_,_,os++ [_],rfl,rfl, ?_,OpsS.add (p:=(d.next,⟨0, [],_⟩)) ⟨_,_,_, [],rfl,StrMap.empty,trivial⟩ hos⟩,hI.newopen⟩;have hm9:=hm_5;rw [putM_new hfr] at hm9;simpa [Db.begin,ptrOf] using hm9
end Go.Proofs.YtkknmpkcfpdllaaGreatDoor.B
