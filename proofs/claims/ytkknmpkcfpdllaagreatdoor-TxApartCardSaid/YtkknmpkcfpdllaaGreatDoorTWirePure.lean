/- What functions of the program compute, each function once: steps over the model, and the plain law of it. -/
import Derived.Test.YtkknmpkcfpdllaaGreatDoorSLogB
namespace Go.Proofs.YtkknmpkcfpdllaaGreatDoor.B
open Go Go.ChangeMaps
set_option linter.unusedVariables false
set_option linter.unusedSimpArgs false
instance lawfulBA:LawfulBEq ByteArray where
  eq_of_beq {a b} h:=by have h:a.data==b.data:=h;cases a;cases b;simp at h;simp [h]
  rfl {a}:=by show (a.data==a.data)=true;simp
def getS:List (ByteArray×Value)->ByteArray->Option Value
  | [],_=>none
  |(q,v)::r,k=>if q=k then some v else getS r k
def putS:List (ByteArray×Value)->ByteArray->Value->List (ByteArray×Value)
  | [],k,v=> [(k,v)]
  |(q,u)::r,k,v=>if q=k then (k,v)::r else (q,u)::putS r k v
theorem putS_keys: ∀(m:List (ByteArray×Value)) (k:ByteArray) (v:Value),(putS m k v).map (·.1)=if k∈m.map (·.1) then m.map (·.1) else m.map (·.1)++ [k]
  | [],k,v=>by simp [putS]
  |(q,u)::r,k,v=>by
    simp only [putS];by_cases h:q=k
    ·subst h;simp
    ·rw [if_neg h];simp only [List.map_cons,putS_keys r k v,List.mem_cons];by_cases hk:k∈r.map (·.1)
     ·rw [if_pos hk,if_pos (.inr hk)]
     ·rw [if_neg hk,if_neg]
      ·rfl
      ·rintro (e|e)
       ·exact h e.symm
       ·exact hk e
theorem getS_none {m:List (ByteArray×Value)} {k:ByteArray}:getS m k=none↔k ∉ m.map (·.1):=by
  induction m with
  |nil=>simp [getS]
  |cons p r ih=>
    obtain ⟨q,u⟩:=p;simp only [getS,List.map_cons,List.mem_cons,not_or];by_cases h:q=k
    ·subst h;simp
    ·rw [if_neg h,ih];constructor
     ·exact fun h2=>⟨fun e=>h e.symm,h2⟩
     ·exact fun h2=>h2.2
theorem getS_of_mem {m:List (ByteArray×Value)} (hn:(m.map (·.1)).Nodup) {k:ByteArray} {v:Value} (h:(k,v)∈m):getS m k=some v:=by
  induction m with
  |nil=>cases h
  |cons p r ih=>
    obtain ⟨q,u⟩:=p;simp only [List.map_cons,List.nodup_cons] at hn;simp only [getS];rcases List.mem_cons.1 h with h|h
    ·injection h with h1 h2;subst h1;subst h2;rw [if_pos rfl]
    ·rw [if_neg,ih hn.2 h];rintro rfl;exact hn.1 (List.mem_map_of_mem (f:=(·.1)) h)
def entS (p:ByteArray×Value):Value×Value:=(.string p.1,p.2)
structure StrMap (es:Array MapEntry) (clock:Nat) (m:List (ByteArray×Value)):Prop where
  eq:es.toList.map (fun e=>(e.key,e.val))=m.map entS
  nd:(m.map (·.1)).Nodup
  old: ∀e∈es.toList,e.born<clock
  born:(es.toList.map (·.born)).Nodup
theorem StrMap.empty:StrMap #[] 0 []:=⟨rfl,by simp,by simp,by simp⟩
theorem StrMap.size {es:Array MapEntry} {clock:Nat} {m:List (ByteArray×Value)} (h:StrMap es clock m):es.size=m.length:=by have:=congrArg List.length h.eq;simpa using this
def atS:List (ByteArray×Value)->ByteArray->Nat->Option (Nat×Value)
  | [],_,_=>none
  |(q,v)::r,k,i=>if q=k then some (i,v) else atS r k (i+1)
theorem find_str {d:TypeDesc} (hd:d= .string) (k:ByteArray): ∀(es:List MapEntry) (m:List (ByteArray×Value)) (i:Nat),es.map (fun e=>(e.key,e.val))=m.map entS->
    Instr.findNow d (.string k) es i=some (atS m k i)
  | [], [],i,_=>rfl
  | [],_::_,i,h=>by simp at h
  |_::_, [],i,h=>by simp at h
  |e::es,(q,v)::m,i,h=>by
    subst hd;simp only [List.map_cons,List.cons.injEq,entS,Prod.mk.injEq] at h;obtain ⟨⟨h1,h2⟩,h3⟩:=h;simp only [Instr.findNow,h1,h2,Instr.sameNow,if_true,atS];by_cases hk:q=k
    ·subst hk;simp
    ·have:(k==q)=false:=by simpa using fun e=>hk e.symm
     rw [this,if_neg hk];exact find_str rfl k es m (i+1) h3
theorem atS_get: ∀(m:List (ByteArray×Value)) (k:ByteArray) (i:Nat),(atS m k i).map (·.2)=getS m k
  | [],_,_=>rfl
  |(q,v)::r,k,i=>by
    simp only [atS,getS];by_cases h:q=k
    ·rw [if_pos h,if_pos h];rfl
    ·rw [if_neg h,if_neg h];exact atS_get r k (i+1)
theorem atS_spec: ∀(m:List (ByteArray×Value)) (k:ByteArray) (i j:Nat) (v:Value),atS m k i=some (j,v)->i<=j/\m[j - i]? =some (k,v)
  | [],_,_,_,_,h=>by cases h
  |(q,u)::r,k,i,j,v,h=>by
    simp only [atS] at h;split at h
    ·rename_i e;subst e;injection h with h;injection h with h1 h2;subst h1;subst h2
     simp
    ·obtain ⟨h1,h2⟩:=atS_spec r k (i+1) j v h;refine ⟨by omega, ?_⟩;rw [show j - i=(j - (i+1))+1 by omega,List.getElem?_cons_succ];exact h2
section
variable {P:Program} {ops:Array Oper} {Q:Exit->Act->World->Prop} {a:Act} {w0 w w':World} {D:Sto} {ss:List Seg} {o:Oper} {N:Nat} {env:Env} {K:Act->World->Prop}
def strKeyed (P:Program) (t:TypeId):Option TypeId:=match P.underlying t with
  |some (.map k e)=>match P.underlying k with
    |some .string=>some e
    |_=>none
  |_=>none
theorem strKeyed_spec {t e:TypeId} (h:strKeyed P t=some e): ∃k,P.underlying t=some (.map k e)/\P.underlying k=some .string:=by
  unfold strKeyed at h;split at h<;>try cases h
  rename_i k e' hk;split at h<;>try cases h
  rename_i hkd;exact ⟨k,hk,hkd⟩
theorem checkKey_str {k:TypeId} (hk:P.underlying k=some .string) (b:Bool) (n:Nat) (i:ByteArray): ∀w,(Instr.checkKey b (n+1) k (.string i)).run P w= .ok () w:=fun w=>by
  simp [Instr.checkKey,underlying,program,hk,Sem.run]
theorem findKey_str {k:TypeId} (hk:P.underlying k=some .string) {es:Array MapEntry} {clock:Nat} {m:List (ByteArray×Value)} (hm:StrMap es clock m) (i:ByteArray): ∀w,(Instr.findKey k (.string i) es.toList).run P w= .ok (atS m i 0) w:=fun w=>by
  simp [Instr.findKey,underlying,program,hk,Sem.run,find_str rfl i es.toList m 0 hm.eq]
theorem run_lookup_str {t e:TypeId} {b:Nat} {es:Array MapEntry} {clock:Nat} {m:List (ByteArray×Value)} {i:ByteArray} {z:Value} {ok:Bool} (ht:strKeyed P t=some e) (hb:w.heap[b]? =some (.map es clock)) (hm:StrMap es clock m)
    (hz:(P.info? e).bind (·.zero)=some z) :
    (Instr.lookup t (.map (some b)) (.string i) ok).run P w= .ok (if ok then .tuple #[(getS m i).getD z, .bool (getS m i).isSome] else (getS m i).getD z) w:=by
  obtain ⟨k,h1,h2⟩:=strKeyed_spec ht;obtain ⟨inf,hinf,hz'⟩:=Option.bind_eq_some_iff.1 hz;have hg:=atS_get m i 0;cases hat:atS m i 0 with
  |none=>
    rw [hat] at hg;simp only [Option.map_none] at hg;simp [Instr.lookup,run_underlying h1,run_getObj hb rfl,checkKey_str h2,findKey_str h2 hm,hat,zeroValue,typeInfo,hinf,hz',<-hg]
  |some q=>
    rw [hat] at hg;simp only [Option.map_some] at hg;simp [Instr.lookup,run_underlying h1,run_getObj hb rfl,checkKey_str h2,findKey_str h2 hm,hat,<-hg]
theorem s_lookupY {t e:TypeId} {x y:Operand} {b:Nat} {es:Array MapEntry} {clock:Nat} {m:List (ByteArray×Value)} {i:ByteArray} {z v:Value} (hx:ev env x=some (.map (some b))) (hy:ev env y=some (.string i)) (ht:strKeyed P t=some e)
    (hz:(P.info? e).bind (·.zero)=some z) (hb:w.heap[b]? =some (.map es clock)) (hm:StrMap es clock m) (hg:getS m i=some v):RunOp P env w (.lookup t x y true) (.tuple #[v, .bool true]):=fun _ a o Z ho=>by
  have h:=run_lookup_str (ok:=true) (i:=i) ht hb hm hz;rw [hg] at h;simp only [if_true,Option.getD_some,Option.isSome_some] at h;simp [execOp,ho,Z.eval hx,Z.eval hy,h]
theorem s_lookupN {t e:TypeId} {x y:Operand} {b:Nat} {es:Array MapEntry} {clock:Nat} {m:List (ByteArray×Value)} {i:ByteArray} {z:Value} (hx:ev env x=some (.map (some b))) (hy:ev env y=some (.string i)) (ht:strKeyed P t=some e)
    (hz:(P.info? e).bind (·.zero)=some z) (hb:w.heap[b]? =some (.map es clock)) (hm:StrMap es clock m) (hg:getS m i=none):RunOp P env w (.lookup t x y true) (.tuple #[z, .bool false]):=fun _ a o Z ho=>by
  have h:=run_lookup_str (ok:=true) (i:=i) ht hb hm hz;rw [hg] at h;simp only [if_true,Option.getD_none,Option.isSome_none] at h;simp [execOp,ho,Z.eval hx,Z.eval hy,h]
theorem put_mapS {es:Array MapEntry} {clock:Nat} {m:List (ByteArray×Value)} (hm:StrMap es clock m) (i:ByteArray) (v:Value) :
    (∀j u,atS m i 0=some (j,u)->StrMap (es.modify j fun e=>{e with key:= .string i,val:=v}) clock (putS m i v))/\(atS m i 0=none->StrMap (es.push {key:= .string i,val:=v,born:=clock}) (clock+1) (putS m i v)):=by
  constructor
  ·intro j u hj;obtain ⟨_,hmj⟩:=atS_spec m i 0 j u hj;simp only [Nat.sub_zero] at hmj;have hput: ∀(m:List (ByteArray×Value)) (s:Nat),atS m i s=some (j+s,u)->putS m i v=m.set j (i,v):=by
     clear hmj hj hm;intro m;induction m generalizing j with
     |nil=>intro s h;cases h
     |cons p r ih=>
       intro s h;obtain ⟨q,x⟩:=p;simp only [atS] at h;simp only [putS];split at h
       ·rename_i e;injection h with h;injection h with h1 _
        have:j=0:=by omega
        subst this;rw [if_pos e];rfl
       ·rename_i e;rw [if_neg e];obtain ⟨h1,_⟩:=atS_spec r i (s+1) _ u h;obtain ⟨j',rfl⟩: ∃j',j=j'+1:=⟨j - 1,by omega⟩;rw [ih j' (Nat.zero_le _) (s+1) (by rw [h];congr 2;omega)];rfl
   have hp:=hput m 0 hj;have hlen:=hm.size;have hjl:j<m.length:=(List.getElem?_eq_some_iff.1 hmj).1;have htl:(es.modify j fun e=>{e with key:= .string i,val:=v}).toList=es.toList.set j {(es[j]'(by omega)) with key:= .string i,val:=v}:=by
     apply List.ext_getElem?;intro q;simp only [Array.getElem?_toList,Array.getElem?_modify,List.getElem?_set,Array.length_toList];by_cases hq:j=q
     ·subst hq;simp [hlen,hjl]
     ·simp [hq]
   have hb:((es.toList.set j {(es[j]'(by omega)) with key:= .string i,val:=v}).map (·.born))=es.toList.map (·.born):=by
     rw [List.map_set];apply List.ext_getElem?;intro q;rw [List.getElem?_set];by_cases hq:j=q
     ·subst hq;simp [hlen,hjl]
     ·simp [hq]
   refine ⟨?_, ?_, ?_, ?_⟩
   ·rw [htl,List.map_set,hm.eq,hp,List.map_set];rfl
   ·rw [putS_keys,if_pos]
    ·exact hm.nd
    ·exact List.mem_map.2 ⟨_,List.mem_of_getElem? hmj,rfl⟩
   ·intro e he;rw [htl] at he;have:e.born∈(es.toList.set j {(es[j]'(by omega)) with key:= .string i,val:=v}).map (·.born):=List.mem_map_of_mem he;rw [hb] at this;obtain ⟨e',he',hbe⟩:=List.mem_map.1 this;rw [<-hbe];exact hm.old e' he'
   ·rw [htl,hb];exact hm.born
  ·intro hn;have hg:getS m i=none:=by rw [<-atS_get m i 0,hn];rfl
   have hk:=getS_none.1 hg;have hp: ∀(m:List (ByteArray×Value)),i ∉ m.map (·.1)->putS m i v=m++ [(i,v)]:=by
     intro m;induction m with
     |nil=>intro _;rfl
     |cons p r ih=>
       intro h;simp only [List.map_cons,List.mem_cons,not_or] at h;obtain ⟨q,x⟩:=p;simp only [putS];rw [if_neg (fun e=>h.1 e.symm),ih h.2];rfl
   refine ⟨?_, ?_, ?_, ?_⟩
   ·rw [hp m hk];simp [hm.eq,entS]
   ·rw [putS_keys,if_neg hk];rw [List.nodup_append];exact ⟨hm.nd,by simp,fun x hx y hy e=>by simp at hy;subst hy;subst e;exact hk hx⟩
   ·intro e he;simp only [Array.toList_push,List.mem_append,List.mem_singleton] at he;rcases he with he|rfl
    ·have:=hm.old e he;omega
    ·simp
   ·simp only [Array.toList_push,List.map_append,List.map_cons,List.map_nil];rw [List.nodup_append];refine ⟨hm.born,by simp,fun x hx y hy e=> ?_⟩;simp at hy;subst hy;subst e;obtain ⟨e',he',hb⟩:=List.mem_map.1 hx;have:=hm.old e' he';omega
theorem run_update_str {t e:TypeId} {b:Nat} {es:Array MapEntry} {clock:Nat} {m:List (ByteArray×Value)} {i:ByteArray} {v:Value} (ht:strKeyed P t=some e) (hb:w.heap[b]? =some (.map es clock)) (hm:StrMap es clock m) :
    ∃es' clock',StrMap es' clock' (putS m i v)/\(Instr.mapUpdate t (.map (some b)) (.string i) v).run P w= .ok () {w with heap:=w.heap.setIfInBounds b (.map es' clock')}:=by
  obtain ⟨k,h1,h2⟩:=strKeyed_spec ht;cases hat:atS m i 0 with
  |none=>
    exact ⟨_,_,(put_mapS hm i v).2 hat,by simp [Instr.mapUpdate,run_underlying h1,run_getObj hb rfl,checkKey_str h2,findKey_str h2 hm,hat,run_setObj hb rfl]⟩
  |some q=>
    obtain ⟨j,u⟩:=q;obtain ⟨_,hmj⟩:=atS_spec m i 0 j u hat;simp only [Nat.sub_zero] at hmj;have hjl:j<m.length:=(List.getElem?_eq_some_iff.1 hmj).1;have hkey:((es[j]?).map (·.key)).getD (.string i)= .string i:=by
      have h3:(es.toList.map (fun e=>(e.key,e.val)))[j]? =some (.string i,u):=by rw [hm.eq,List.getElem?_map,hmj];rfl
      rw [List.getElem?_map] at h3;cases h4:es[j]? with
      |none=>rfl
      |some x=>
        rw [Array.getElem?_toList,h4] at h3;simp at h3;simp [h3.1]
    have hstay: ∀w,(Instr.keyThatStays (.string i) (.string i)).run P w= .ok (.string i) w:=fun w=>by
      simp [Instr.keyThatStays,Instr.sameBits]
    exact ⟨_,_,(put_mapS hm i v).1 j u hat,by simp [Instr.mapUpdate,run_underlying h1,run_getObj hb rfl,checkKey_str h2,findKey_str h2 hm,hat,hkey,hstay,run_setObj hb rfl]⟩
theorem so_mapUpdate {t e:TypeId} {x y u:Operand} {b:Nat} {es:Array MapEntry} {clock:Nat} {m:List (ByteArray×Value)} {i:ByteArray} {v:Value} (j:Nat) (Z:EnvOk N env a) (I:Inv w0 D ss w) (hd:o.dst=none)
    (ho:o.op= .mapUpdate t x y u\/o.op= .insert t x y u) (hx:ev env x=some (.map (some b))) (hy:ev env y=some (.string i)) (hu:ev env u=some v) (ht:strKeyed P t=some e) (hj:ss[j]? =some [(b, .map es clock)]) (hm:StrMap es clock m)
    (k: ∀es' clock' w',StrMap es' clock' (putS m i v)->Inv w0 D (ss.set j [(b, .map es' clock')]) w'->K a w'):o.wp P a w K Q:=by
  have hb:=I.seg j hj;obtain ⟨es',clock',hm',hr⟩:=run_update_str (P:=P) (i:=i) (v:=v) ht hb hm;have hrun:(execOp a.eval o).run P w= .ok .skip {w with heap:=w.heap.setIfInBounds b (.map es' clock')}:=by rcases ho with ho|ho<;>simp [execOp,ho,Z.eval hx,Z.eval hy,Z.eval hu,hr]
  refine o_skip hrun ?_;rw [hd];exact k _ _ _ hm' (I.turn_at j hj)
structure VisS (es:Array MapEntry) (seen:Array Nat) (m vis:List (ByteArray×Value)):Prop where
  sub: ∀p∈vis,p∈m
  nd:(vis.map (·.1)).Nodup
  iff: ∀e∈es.toList,∀p,(e.key,e.val)=entS p->(seen.contains e.born=true↔p∈vis)
def LastS (es:Array MapEntry) (seen:Array Nat) (p:ByteArray×Value):Prop:= ∃e∈es.toList,seen.back? =some e.born/\(e.key,e.val)=entS p
theorem VisS.start (es:Array MapEntry) (m:List (ByteArray×Value)):VisS es #[] m []:=⟨by simp,by simp,fun e _ p _=>by simp⟩
theorem so_next {d:Nat} {x:Operand} {b r:Nat} {es:Array MapEntry} {clock:Nat} {m vis:List (ByteArray×Value)} {seen:Array Nat} (j q:Nat) (Z:EnvOk N env a) (I:Inv w0 D ss w) (hd:o.dst=some d) (hN:Nat.blt d N=true) (ho:o.op= .next x false)
    (hx:ev env x=some (.pointer (some ⟨r,0,none⟩))) (hj:ss[j]? =some [(b, .map es clock)]) (hq:ss[q]? =some [(r, .mapIter (some b) clock seen clock)]) (hm:StrMap es clock m) (hv:VisS es seen m vis)
    (over:(∀p∈m,p∈vis)-> ∀a',EnvOk N ((d, .tuple #[.bool false])::env) a'->K a' w)
    (step: ∀p,p∈m->p ∉ vis-> ∀seen' w',VisS es seen' m (p::vis)->LastS es seen' p->Inv w0 D (ss.set q [(r, .mapIter (some b) clock seen' clock)]) w'->
      ∀a',EnvOk N ((d, .tuple #[.bool true, .string p.1,p.2])::env) a'->K a' w'):o.wp P a w K Q:=by
  have hb:=I.seg j hj;have hr:=I.seg q hq;have hent: ∀e∈es.toList,∃p,p∈m/\(e.key,e.val)=entS p:=by intro e he;have h1:(e.key,e.val)∈es.toList.map (fun e=>(e.key,e.val)):=List.mem_map_of_mem (f:=fun e=>(e.key,e.val)) he;rw [hm.eq] at h1;obtain ⟨p,hp,hpe⟩:=List.mem_map.1 h1;exact ⟨p,hp,hpe.symm⟩
  have hmem: ∀p∈m,∃e∈es.toList,(e.key,e.val)=entS p:=by intro p hp;have h1:entS p∈m.map entS:=List.mem_map_of_mem hp;rw [<-hm.eq] at h1;obtain ⟨e,he,hee⟩:=List.mem_map.1 h1;exact ⟨e,he,hee⟩
  have einj: ∀p p':ByteArray×Value,entS p=entS p'->p=p':=by intro p p' h;simp only [entS,Prod.mk.injEq,Value.string.injEq] at h;exact Prod.ext h.1 h.2
  rcases run_next_at (P:=P) w o.type r b clock clock seen es clock hr hb hm.old (Nat.le_refl _) with ⟨h0,hrun⟩|⟨e,he,w1,hw1,hrun⟩
  ·have hrun':(execOp a.eval o).run P w= .ok (.value (.tuple #[.bool false])) w:=by simp [execOp,ho,Z.eval hx,hrun]
   have hall: ∀p∈m,p∈vis:=fun p hp=>by
     obtain ⟨e,he,hee⟩:=hmem p hp;refine (hv.iff e he p hee).1 ?_;have hl:leftOf es seen= #[]:=Array.eq_empty_of_size_eq_zero h0;unfold leftOf at hl;rw [Array.filter_eq_empty_iff] at hl;have:=hl e (by simpa using he);simpa using this
   exact o_val hrun' (by rw [hd];exact over hall _ (Z.put hN _))
  ·have hrun':(execOp a.eval o).run P w= .ok (.value (.tuple #[.bool true,e.key,e.val])) (setBlock w1 r (.mapIter (some b) clock (seen.push e.born) clock)):=by simp [execOp,ho,Z.eval hx,hrun]
   have he':e∈es.toList/\seen.contains e.born=false:=by unfold leftOf at he;simp only [Array.toList_filter,List.mem_filter,Bool.not_eq_true'] at he;exact he
   obtain ⟨p,hp,hpe⟩:=hent e he'.1;have hnv:p ∉ vis:=fun h=>by
     have:=(hv.iff e he'.1 p hpe).2 h;rw [he'.2] at this;cases this
   have hI1:Inv w0 D ss w1:=by
     rcases hw1 with rfl|rfl
     ·exact I
     ·exact I.drawn _
   have hkv:e.key= .string p.1/\e.val=p.2:=by simpa [entS] using hpe
   refine o_val hrun' ?_;rw [hd,hkv.1,hkv.2];refine step p hp hnv (seen.push e.born) _ ⟨?_, ?_, ?_⟩ ⟨e,he'.1,by simp,hpe⟩ (hI1.turn_at q hq) _ (Z.put hN _)
   ·intro x hx';rcases List.mem_cons.1 hx' with rfl|hx'
    ·exact hp
    ·exact hv.sub x hx'
   ·simp only [List.map_cons,List.nodup_cons];refine ⟨fun hmem'=> ?_,hv.nd⟩;obtain ⟨y,hy,hye⟩:=List.mem_map.1 hmem';have h1:=getS_of_mem hm.nd (hv.sub y hy);have h2:=getS_of_mem hm.nd hp;rw [hye] at h1;rw [h1] at h2;injection h2 with h2
    have hyp:y=p:=Prod.ext hye h2;exact hnv (hyp▸hy)
   ·intro e2 he2 p2 hpe2;rw [Array.contains_push];simp only [Bool.or_eq_true,beq_iff_eq,List.mem_cons];constructor
    ·rintro (h|h)
     ·right;exact (hv.iff e2 he2 p2 hpe2).1 h
     ·left;have hee:e2=e:=by
        have:=find_born e2 es.toList hm.born he2;have h3:=find_born e es.toList hm.born he'.1;rw [h] at this;rw [this] at h3;exact Option.some.inj h3
      subst hee;exact einj _ _ (hpe2.symm.trans hpe)
    ·rintro (h|h)
     ·right;subst h;have h1: ∀(l:List MapEntry) (m:List (ByteArray×Value)),l.map (fun e=>(e.key,e.val))=m.map entS->(m.map (·.1)).Nodup->e∈l->e2∈l->e2=e:=by
        intro l;induction l with
        |nil=>intro m _ _ h;cases h
        |cons x l ih=>
          intro m h hn h1 h2;cases m with
          |nil=>simp at h
          |cons y m=>
            simp only [List.map_cons,List.cons.injEq,List.nodup_cons] at h hn;have no: ∀z∈l,(z.key,z.val)=entS p2->(x.key,x.val)=entS p2->False:=by intro z hz h3 h4;have h5:(z.key,z.val)∈l.map (fun e=>(e.key,e.val)):=List.mem_map_of_mem (f:=fun e=>(e.key,e.val)) hz;rw [h.2,h3] at h5;obtain ⟨y',hy',hy2⟩:=List.mem_map.1 h5;rw [einj _ _ hy2] at hy';rw [h.1] at h4;rw [einj _ _ h4] at hn;exact hn.1 (List.mem_map_of_mem (f:=(·.1)) hy')
            rcases List.mem_cons.1 h1 with g1|g1<;>rcases List.mem_cons.1 h2 with g2|g2
            ·rw [g1,g2]
            ·exact (no _ g2 hpe2 (by rw [<-g1];exact hpe)).elim
            ·exact (no _ g1 hpe (by rw [<-g2];exact hpe2)).elim
            ·exact ih m h.2 hn.2 g1 g2
      exact congrArg _ (h1 es.toList m hm.eq hm.nd he'.1 he2)
     ·left;exact (hv.iff e2 he2 p2 hpe2).2 h
theorem sr_entry {x:Operand} {b r clock:Nat} {es:Array MapEntry} {m:List (ByteArray×Value)} {seen:Array Nat} {p:ByteArray×Value} (hx:ev env x=some (.pointer (some ⟨r,0,none⟩))) (hb:w.heap[b]? =some (.map es clock))
    (hr:w.heap[r]? =some (.mapIter (some b) clock seen clock)) (hm:StrMap es clock m) (hl:LastS es seen p):RunOp P env w (.entry x) (.tuple #[.string p.1,p.2]):=fun _ a o Z ho=>by
  obtain ⟨e,he,hbk,hpe⟩:=hl;have hkv:e.key= .string p.1/\e.val=p.2:=by simpa [entS] using hpe
  have hf:es.find? (·.born==e.born)=some e:=by rw [<-Array.find?_toList];exact find_born e es.toList hm.born he
  have hrun:(Instr.entry (.pointer (some ⟨r,0,none⟩))).run P w= .ok (.tuple #[e.key,e.val]) w:=by simp [Instr.entry,run_getObj hr rfl,run_getObj hb rfl,hbk,hf]
  simp [execOp,ho,Z.eval hx,hrun,hkv.1,hkv.2]
end
open Go
def putN (z:Nat):List Nat:=if z<128 then [z] else (z % 128+128)::putN (z / 128)
termination_by z
decreasing_by omega
def zig (n:Int):Nat:=if 0<=n then (2*n).toNat else (-2*n - 1).toNat
theorem putN_lt: ∀(z:Nat),∀x∈putN z,x<256:=by
 intro z;induction z using Nat.strongRecOn with
 |_ z ih=>
  intro x hx;unfold putN at hx;split at hx
  ·simp at hx;omega
  rename_i h;rcases List.mem_cons.1 hx with rfl|hx
  ·omega
  exact ih (z / 128) (by omega) x hx
theorem putN_pos (z:Nat):0<(putN z).length:=by unfold putN;split<;>simp
theorem putN_len: ∀(k z:Nat),z<128^(k+1)->(putN z).length<=k+1
 |0,z,h=>by unfold putN;rw [if_pos (by simpa using h)];simp
 |k+1,z,h=>by
  unfold putN;split
  ·simp
  have:z / 128<128^(k+1):=by rw [Nat.pow_succ] at h;exact Nat.div_lt_of_lt_mul (by omega)
  have:=putN_len k (z / 128) this;simp;omega
theorem putN_len64 {z:Nat} (h:z<18446744073709551616):(putN z).length<=10:=putN_len 9 z (by omega)
def putZ (n:Int):List Nat:=putN (zig n)
theorem putZ_lt (n:Int): ∀x∈putZ n,x<256:=putN_lt _
theorem zig_lt {n:Int} (h0: -9223372036854775808<=n) (h1:n<=9223372036854775807):zig n<18446744073709551616:=by unfold zig;split<;>omega
inductive Flt where
 |none
 |bare (c:Nat)
 |at_ (c:Nat) (p:Int)
deriving DecidableEq
def errV (ad:Nat->Addr) (k:Nat):Value:= .iface 316 (.pointer (some (ad k)))
def GlobIs (D:Sto) (g:Nat) (v:Value):Prop:= ∃T fr,D g=some (.cells #[v] T fr)
theorem GlobIs.mono {D D':Sto} {g:Nat} {v:Value} (h:GlobIs D g v) (hD:Le D D'):GlobIs D' g v:=by obtain ⟨T,fr,hg⟩:=h;exact ⟨T,fr,hD _ _ hg⟩
def FltIs (D:Sto) (ad:Nat->Addr) (v:Value):Flt->Prop
 | .none=>v= .nilIface
 | .bare c=>v=errV ad c
 | .at_ c p=> ∃b T fr,v= .iface 211 (.pointer (some ⟨b,0,none⟩))/\D b=some (.cells #[.int .i64 p,errV ad c] T fr)
end Go.Proofs.YtkknmpkcfpdllaaGreatDoor.B
