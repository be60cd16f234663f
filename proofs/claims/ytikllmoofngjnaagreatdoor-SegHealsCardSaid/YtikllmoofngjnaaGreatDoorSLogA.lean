/- A program logic over the model: what is owned, what is written no more, and one lemma for each kind of step. -/
import Derived.OrdersHeld
import Derived.Tactics
import Derived.KernelRfl
import Derived.WideLaws
import Derived.Maps.AppendAt
import Derived.Laws.AppendOwnNone
import Derived.Laws.Tables
import Derived.IntWalk
namespace Go.Proofs.YtikllmoofngjnaaGreatDoor.B
open Go
abbrev Env:=List (Nat×Value)
def look:Env->Nat->Option Value
  | [],_=>none
  |(k,v)::r,t=>bif Nat.beq t k then some v else look r t
structure EnvOk (N:Nat) (env:Env) (a:Act):Prop where
  defers:a.defers= []
  size:a.tmps.size=N
  get: ∀t v,look env t=some v->a.tmps[t]? =some v
theorem look_cons (k:Nat) (v:Value) (r:Env) (t:Nat):look ((k,v)::r) t=if t=k then some v else look r t:=by
  simp only [look];by_cases h:t=k
  ·subst h;simp
  ·rw [if_neg h];have:Nat.beq t k=false:=by
     cases hb:Nat.beq t k with
     |false=>rfl
     |true=>exact absurd (Nat.eq_of_beq_eq_true hb) h
   rw [this];rfl
theorem EnvOk.put {N d:Nat} {env:Env} {a:Act} (h:EnvOk N env a) (hd:Nat.blt d N=true) (v:Value):EnvOk N ((d,v)::env) (a.put (some d) v):=by
  have hd':d<N:=by have:=Nat.le_of_ble_eq_true hd;omega
  refine ⟨h.defers,by simp [Act.put,h.size],fun t u hu=> ?_⟩;rw [look_cons] at hu;simp only [Act.put];by_cases e:t=d
  ·subst e;rw [if_pos rfl] at hu;rw [Array.getElem?_setIfInBounds_self_of_lt (by rw [h.size];exact hd')];exact hu
  ·rw [if_neg e] at hu;rw [Array.getElem?_setIfInBounds_ne (fun h=>e h.symm)];exact h.get t u hu
theorem EnvOk.sub {N:Nat} {env env':Env} {a:Act} (h:EnvOk N env a) (hs: ∀t v,look env' t=some v->look env t=some v):EnvOk N env' a:=
  ⟨h.defers,h.size,fun t v ht=>h.get t v (hs t v ht)⟩
def pick (env:Env):List Nat->Env
  | []=> []
  |t::ts=>match look env t with
    |some v=>(t,v)::pick env ts
    |none=>pick env ts
theorem look_pick (env:Env): ∀(ts:List Nat) (t:Nat) (v:Value),look (pick env ts) t=some v->look env t=some v
  | [],t,v,h=>by simp [pick,look] at h
  |s::ts,t,v,h=>by
    simp only [pick] at h;split at h
    ·rename_i u hu;rw [look_cons] at h;by_cases e:t=s
     ·subst e;rw [if_pos rfl] at h;rw [hu];exact h
     ·rw [if_neg e] at h;exact look_pick env ts t v h
    ·exact look_pick env ts t v h
theorem EnvOk.pick {N:Nat} {env:Env} {a:Act} (h:EnvOk N env a) (ts:List Nat):EnvOk N (pick env ts) a:=h.sub (look_pick env ts)
def ev (env:Env):Operand->Option Value
  | .tmp t=>look env t
  | .const v=>some v
  | .global g=>some (.pointer (some ⟨g,0,none⟩))
  | .func f=>some (.func (.func f) #[] #[])
theorem EnvOk.eval {N:Nat} {env:Env} {a:Act} (h:EnvOk N env a) {x:Operand} {v:Value} (hx:ev env x=some v):a.eval x=v:=by
  cases x with
  |tmp t=>
    have:=h.get t v hx;simp [Act.eval,Array.getD_eq_getD_getElem?,this]
  |const u=>simpa [ev,Act.eval] using hx
  |global g=>simpa [ev,Act.eval] using hx
  |func f=>simpa [ev,Act.eval] using hx
abbrev Sto:=Nat->Option Obj
abbrev Seg:=List (Nat×Obj)
structure Inv (w0:World) (D:Sto) (ss:List Seg) (w:World):Prop where
  os:w.os=w0.os
  tape:w.tape=w0.tape
  output:w.output=w0.output
  size:w0.heap.size<=w.heap.size
  data: ∀b o,D b=some o->w.heap[b]? =some o
  own: ∀p∈ss.flatten,w.heap[p.1]? =some p.2
  apart: ∀p∈ss.flatten,D p.1=none
  nodup:(ss.flatten.map (·.1)).Nodup
def Le (D D':Sto):Prop:= ∀b o,D b=some o->D' b=some o
theorem Le.refl (D:Sto):Le D D:=fun _ _ h=>h
theorem Le.trans {D D' D'':Sto} (h:Le D D') (k:Le D' D''):Le D D'':=fun b o hb=>k b o (h b o hb)
section
variable {w0 w:World} {D:Sto} {ss:List Seg}
theorem Inv.perm {ss':List Seg} (h:Inv w0 D ss w) (hp:ss'.flatten.Perm ss.flatten):Inv w0 D ss' w:=
  ⟨h.os,h.tape,h.output,h.size,h.data,fun p hm=>h.own p (hp.mem_iff.1 hm),fun p hm=>h.apart p (hp.mem_iff.1 hm),(hp.map _).nodup_iff.2 h.nodup⟩
def bring (i:Nat) (ss:List Seg):List Seg:=match ss[i]? with
  |some s=>s::ss.eraseIdx i
  |none=>ss
theorem erase_perm {α:Type} {s:α}: ∀(i:Nat) (l:List α),l[i]? =some s->(s::l.eraseIdx i).Perm l
  |_, [],h=>by simp at h
  |0,x::r,h=>by
    have:x=s:=by simpa using h
    subst this;exact List.Perm.refl _
  |i+1,x::r,h=>by
    have ih:=erase_perm i r (by simpa using h);rw [List.eraseIdx_cons_succ];exact (List.Perm.swap x s _).trans (ih.cons x)
theorem bring_perm (i:Nat) (ss:List Seg):(bring i ss).flatten.Perm ss.flatten:=by
  simp only [bring];split
  ·rename_i s hs;exact (erase_perm i ss hs).flatten
  ·exact List.Perm.refl _
theorem Inv.bring (h:Inv w0 D ss w) (i:Nat):Inv w0 D (bring i ss) w:=h.perm (bring_perm i ss)
theorem Inv.drop {s:Seg} (h:Inv w0 D (s::ss) w):Inv w0 D ss w:=
  ⟨h.os,h.tape,h.output,h.size,h.data,fun p hm=>h.own p (by simp only [List.flatten_cons,List.mem_append];exact .inr hm),
   fun p hm=>h.apart p (by simp only [List.flatten_cons,List.mem_append];exact .inr hm),
   by have:=h.nodup;simp only [List.flatten_cons,List.map_append] at this;exact (List.nodup_append.1 this).2.1⟩
def Sto.put (D:Sto):Seg->Sto
  | []=>D
  |(b,o)::r=>fun k=>if k=b then some o else Sto.put D r k
theorem Sto.put_none (D:Sto): ∀(s:Seg) (k:Nat),k ∉ s.map (·.1)->Sto.put D s k=D k
  | [],k,_=>rfl
  |(b,o)::r,k,h=>by
    simp only [List.map_cons,List.mem_cons,not_or] at h;simp only [Sto.put,if_neg h.1];exact Sto.put_none D r k h.2
theorem Sto.put_some (D:Sto): ∀(s:Seg) (k:Nat) (o:Obj),Sto.put D s k=some o->(k,o)∈s\/D k=some o
  | [],k,o,h=> .inr h
  |(b,o')::r,k,o,h=>by
    simp only [Sto.put] at h;split at h
    ·rename_i e;subst e;injection h with h;subst h;exact .inl (by simp)
    ·rcases Sto.put_some D r k o h with h'|h'
     ·exact .inl (by simp [h'])
     ·exact .inr h'
theorem Inv.shut {s:Seg} (h:Inv w0 D (s::ss) w):Inv w0 (Sto.put D s) ss w:=by
  have hd:=h.drop;have hn:=h.nodup;simp only [List.flatten_cons,List.map_append] at hn;obtain ⟨h1,h2,h3⟩:=List.nodup_append.1 hn;refine ⟨h.os,h.tape,h.output,h.size,fun b o hb=> ?_,hd.own,fun p hm=> ?_,hd.nodup⟩
  ·rcases Sto.put_some D s b o hb with hb|hb
   ·exact h.own (b,o) (by simp [hb])
   ·exact h.data b o hb
  ·rw [Sto.put_none]
   ·exact hd.apart p hm
   ·intro hk;exact h3 p.1 hk p.1 (List.mem_map_of_mem hm) rfl
theorem Le.put {D:Sto} {s:Seg} (h: ∀p∈s,D p.1=none):Le D (Sto.put D s):=by
  intro b o hb;rw [Sto.put_none]
  ·exact hb
  ·intro hm;obtain ⟨p,hp,rfl⟩:=List.mem_map.1 hm;rw [h p hp] at hb;cases hb
theorem Inv.le_shut {s:Seg} (h:Inv w0 D (s::ss) w):Le D (Sto.put D s):=Le.put fun p hp=>h.apart p (by simp [hp])
theorem Inv.drawn (h:Inv w0 D ss w) (n:Nat):Inv w0 D ss {w with drawn:=n}:=⟨h.os,h.tape,h.output,h.size,h.data,h.own,h.apart,h.nodup⟩
theorem heap_lt {w:World} {b:Nat} {o:Obj} (h:w.heap[b]? =some o):b<w.heap.size:=(Array.getElem?_eq_some_iff.1 h).1
theorem Inv.new (h:Inv w0 D ss w) (o:Obj):Inv w0 D ([(w.heap.size,o)]::ss) {w with heap:=w.heap.push o}:=by
  have hlt: ∀b o',w.heap[b]? =some o'->(w.heap.push o)[b]? =some o':=fun b o' hb=>by
    have:=heap_lt hb;rw [Array.getElem?_push_lt this];exact (Array.getElem?_eq_getElem this).symm.trans hb
  refine ⟨h.os,h.tape,h.output,by simp;have:=h.size;omega,fun b o' hb=>hlt b o' (h.data b o' hb),fun p hp=> ?_,fun p hp=> ?_, ?_⟩
  ·simp only [List.flatten_cons,List.mem_append,List.mem_singleton] at hp;rcases hp with rfl|hp
   ·simp
   ·exact hlt _ _ (h.own p hp)
  ·simp only [List.flatten_cons,List.mem_append,List.mem_singleton] at hp;rcases hp with rfl|hp
   ·cases hD:D w.heap.size with
    |none=>rfl
    |some o'=>have:=heap_lt (h.data _ _ hD);omega
   ·exact h.apart p hp
  ·simp only [List.flatten_cons,List.map_cons,List.singleton_append,List.nodup_cons];refine ⟨fun hm=> ?_,h.nodup⟩;obtain ⟨p,hp,he⟩:=List.mem_map.1 hm;have:=heap_lt (h.own p hp);omega
end
section
variable {P:Program} {ops:Array Oper} {Q:Exit->Act->World->Prop} {a:Act} {w w':World} {rest:List Oper} {o:Oper} {N:Nat} {env:Env}
def PureOp (P:Program) (env:Env) (op:Op) (v:Value):Prop:= ∀(N:Nat) (a:Act) (w:World) (o:Oper),EnvOk N env a->o.op=op->(execOp a.eval o).run P w= .ok (.value v) w
theorem p_move {x:Operand} {v:Value} (hx:ev env x=some v):PureOp P env (.move x) v:=fun _ a w o Z ho=>by
  simp [execOp,ho,Z.eval hx]
theorem p_assign {x:Operand} {v:Value} (hx:ev env x=some v):PureOp P env (.assign x) v:=fun _ a w o Z ho=>by
  simp [execOp,ho,Z.eval hx]
theorem p_pick {c x y:Operand} {b:Bool} {v:Value} (hc:ev env c=some (.bool b)) (hx:ev env (if b then x else y)=some v):PureOp P env (.pick c x y) v:=fun _ a w o Z ho=>by
  have h1:=Z.eval hc;have h2:=Z.eval hx;simp only [execOp,ho,h1,asBool];cases b<;>simpa using h2
theorem p_not {t:TypeId} {x:Operand} {b:Bool} (hx:ev env x=some (.bool b)):PureOp P env (.unOp .not t x) (.bool !b):=fun _ a w o Z ho=>by
  simp [execOp,ho,Z.eval hx,Op.unary]
def cmpB:BinOp->Int->Int->Option Bool
  | .eql,x,y=>some (x==y)
  | .neq,x,y=>some (x != y)
  | .lss,x,y=>some (decide (x<y))
  | .leq,x,y=>some (decide (x<=y))
  | .gtr,x,y=>some (decide (x>y))
  | .geq,x,y=>some (decide (x≥y))
  |_,_,_=>none
theorem p_cmp {op:BinOp} {t t':TypeId} {x y:Operand} {k:IntKind} {m n:Int} {b:Bool} (hx:ev env x=some (.int k m)) (hy:ev env y=some (.int k n)) (hb:cmpB op m n=some b) :
    PureOp P env (.binOp op t x y t') (.bool b):=fun _ a w o Z ho=>by
  have h1:=Z.eval hx;have h2:=Z.eval hy;simp only [execOp,ho,h1,h2,eqGuard,binOp];cases op<;>simp only [cmpB,Option.some.injEq,reduceCtorEq] at hb<;>subst hb<;>simp [Op.intCmp]
def arithZ:BinOp->IntKind->Int->Int->Option Int
  | .add,k,x,y=>some (k.wrap (x+y))
  | .sub,k,x,y=>some (k.wrap (x - y))
  | .mul,k,x,y=>some (k.wrap (x*y))
  | .quo,k,x,y=>if y=0 then none else some (k.wrap (x.tdiv y))
  | .rem,_,x,y=>if y=0 then none else some (x.tmod y)
  | .and,k,x,y=>some (k.wrap (BitVec.ofInt k.bits x &&& BitVec.ofInt k.bits y).toNat)
  | .or,k,x,y=>some (k.wrap (BitVec.ofInt k.bits x |||BitVec.ofInt k.bits y).toNat)
  | .xor,k,x,y=>some (k.wrap (BitVec.ofInt k.bits x^^^BitVec.ofInt k.bits y).toNat)
  | .andNot,k,x,y=>some (k.wrap (BitVec.ofInt k.bits x &&& ~~~(BitVec.ofInt k.bits y)).toNat)
  |_,_,_,_=>none
theorem p_arith {op:BinOp} {t t':TypeId} {x y:Operand} {k:IntKind} {m n z:Int} (hx:ev env x=some (.int k m)) (hy:ev env y=some (.int k n)) (hz:arithZ op k m n=some z) :
    PureOp P env (.binOp op t x y t') (.int k z):=fun _ a w o Z ho=>by
  have h1:=Z.eval hx;have h2:=Z.eval hy;simp only [execOp,ho,h1,h2,eqGuard,binOp];cases op<;>simp only [arithZ,Option.some.injEq,reduceCtorEq] at hz
  case quo=>
    split at hz
    ·cases hz
    ·rename_i h0;injection hz with hz;subst hz;simp [Op.intDiv,h0]
  case rem=>
    split at hz
    ·cases hz
    ·rename_i h0;injection hz with hz;subst hz;simp [Op.intDiv,h0]
  all_goals subst hz;simp [Op.intArith,Op.intBits]
theorem p_shl {t t':TypeId} {x y:Operand} {k k':IntKind} {m n z:Int} (hx:ev env x=some (.int k m)) (hy:ev env y=some (.int k' n)) (h0:0<=n) (hz:k.wrap (m*2^min n.toNat k.bits)=z) :
    PureOp P env (.binOp .shl t x y t') (.int k z):=fun _ a w o Z ho=>by
  have h1:=Z.eval hx;have h2:=Z.eval hy;have h3: ¬n<0:=by omega
  subst hz;simp [execOp,ho,h1,h2,eqGuard,binOp,Op.shift,h3]
theorem p_shr {t t':TypeId} {x y:Operand} {k k':IntKind} {m n z:Int} (hx:ev env x=some (.int k m)) (hy:ev env y=some (.int k' n)) (h0:0<=n) (hz:m.fdiv (2^min n.toNat k.bits)=z) :
    PureOp P env (.binOp .shr t x y t') (.int k z):=fun _ a w o Z ho=>by
  have h1:=Z.eval hx;have h2:=Z.eval hy;have h3: ¬n<0:=by omega
  subst hz;simp [execOp,ho,h1,h2,eqGuard,binOp,Op.shift,h3]
def eqB:BinOp->Bool->Option Bool
  | .eql,b=>some b
  | .neq,b=>some (!b)
  |_,_=>none
theorem p_eq {op:BinOp} {t t':TypeId} {x y:Operand} {u v:Value} {e b:Bool} (hx:ev env x=some u) (hy:ev env y=some v)
    (hg: ∀w,(eqGuard op t x y u v).run P w= .ok () w) (hf: ∀w,(Op.equalIn (9999+1) t u v).run P w= .ok e w)
    (hu:(match u with| .int .. | .float .. | .complex .. | .string _=>false|_=>true)=true) (hb:eqB op e=some b):PureOp P env (.binOp op t x y t') (.bool b):=fun _ a w o Z ho=>by
  have h1:=Z.eval hx;have h2:=Z.eval hy;have h3: ∀w,(binOp op t u v).run P w= .ok (.bool b) w:=fun w=>by
    cases op<;>simp only [eqB,Option.some.injEq,reduceCtorEq] at hb<;>subst hb<;>cases u<;>simp only [Bool.false_eq_true] at hu<;>
      (simp only [binOp,Op.equal];rw [show Op.maxDepth=9999+1 from rfl];simp [hf w])
  simp [execOp,ho,h1,h2,hg w,h3 w]
theorem g_form (op:BinOp) (t:TypeId) (x y:Operand) (u v:Value):eqGuard op t x y u v=(pure ():Sem Unit)\/eqGuard op t x y u v=eqGuard .eql t x y u v:=by cases op<;>first|exact .inr rfl|exact .inl rfl
theorem g_none {op:BinOp} {t:TypeId} {x y:Operand} {u v:Value} (h:(match u,v with| .nilIface, .nilIface=>false| .agg _, .agg _=>false|_,_=>true)=true) :
    ∀w,(eqGuard op t x y u v).run P w= .ok () w:=fun w=>by
  rcases g_form op t x y u v with e|e
  ·rw [e];rfl
  ·rw [e];simp only [eqGuard];split
   ·rfl
   ·split
    ·simp at h
    ·simp at h
    ·rfl
theorem g_nilLit {op:BinOp} {t:TypeId} {x:Operand} {u c:Value}: ∀w,(eqGuard op t x (.const c) u .nilIface).run P w= .ok () w:=fun w=>by
  rcases g_form op t x (.const c) u .nilIface with e|e
  ·rw [e];rfl
  ·rw [e];cases u<;>simp [eqGuard]
theorem e_bool {d:Nat} {t:TypeId} {m n:Bool} (ht:P.underlying t=some .bool): ∀w,(Op.equalIn (d+1) t (.bool m) (.bool n)).run P w= .ok (m==n) w:=fun w=>by
  simp [Op.equalIn,underlying,program,ht,Sem.run]
theorem p_boolEq {op:BinOp} {t t':TypeId} {x y:Operand} {m n b:Bool} (ht:P.underlying t=some .bool) (hx:ev env x=some (.bool m)) (hy:ev env y=some (.bool n))
    (hb:eqB op (m==n)=some b):PureOp P env (.binOp op t x y t') (.bool b):=p_eq hx hy (g_none rfl) (e_bool ht) rfl hb
def nilI:Value->Option Bool
  | .nilIface=>some true
  | .iface _ _=>some false
  |_=>none
theorem e_ifaceNil {d:Nat} {t:TypeId} {ms:Array (String×TypeId)} {u:Value} {e:Bool} (ht:P.underlying t=some (.interface ms)) (hu:nilI u=some e) :
    ∀w,(Op.equalIn (d+1) t u .nilIface).run P w= .ok e w:=fun w=>by
  cases u<;>simp [nilI] at hu<;>subst hu<;>simp [Op.equalIn,underlying,program,ht,Sem.run]
theorem p_ifaceNil {op:BinOp} {t t':TypeId} {x:Operand} {ms:Array (String×TypeId)} {u:Value} {e b:Bool} (ht:P.underlying t=some (.interface ms)) (hx:ev env x=some u)
    (hu:nilI u=some e) (hb:eqB op e=some b):PureOp P env (.binOp op t x (.const .nilIface) t') (.bool b):=by
  exact p_eq (y:= .const .nilIface) (v:= .nilIface) hx rfl g_nilLit (e_ifaceNil ht hu) (by cases u<;>simp [nilI] at hu<;>rfl) hb
theorem e_sliceNil {d:Nat} {t e:TypeId} {A:Option Addr} {n c:Nat} {b:Bool} (ht:P.underlying t=some (.slice e)) (hb:A.isNone=b) :
    ∀w,(Op.equalIn (d+1) t (.slice A n c) (.slice none 0 0)).run P w= .ok b w:=fun w=>by
  subst hb;cases A<;>simp [Op.equalIn,underlying,program,ht,Sem.run]
theorem e_ptrNil {d:Nat} {t e:TypeId} {A:Option Addr} {b:Bool} (ht:P.underlying t=some (.pointer e)) (hb:A.isNone=b) :
    ∀w,(Op.equalIn (d+1) t (.pointer A) (.pointer none)).run P w= .ok b w:=fun w=>by
  subst hb;cases A<;>simp [Op.equalIn,underlying,program,ht,Sem.run,samePointer,sizeOf,typeInfo]
theorem p_int {src dst:TypeId} {x:Operand} {k k':IntKind} {m z:Int} {d:TypeDesc} (hs:P.underlying src=some d) (hd:P.underlying dst=some (.int k)) (hx:ev env x=some (.int k' m)) (hz:k.wrap m=z) :
    PureOp P env (.convert src dst x) (.int k z):=fun _ a w o Z ho=>by
  have h1:=Z.eval hx;subst hz;simp [execOp,ho,h1,convert,underlying,program,hs,hd,Sem.run,Conv.intToInt]
theorem p_extract {x:Operand} {vs:Array Value} {i:Nat} {v:Value} (hx:ev env x=some (.tuple vs)) (hv:vs[i]? =some v):PureOp P env (.extract x i) v:=fun _ a w o Z ho=>by
  have h1:=Z.eval hx;simp [execOp,ho,h1,Instr.extract,hv]
theorem p_nilCheck {x:Operand} {p:Addr} (hx:ev env x=some (.pointer (some p))):PureOp P env (.nilCheck x) (.pointer (some p)):=fun _ a w o Z ho=>by
  have h1:=Z.eval hx;simp [execOp,ho,h1]
theorem p_iface {t:TypeId} {x:Operand} {v:Value} {d:TypeDesc} (hd:P.underlying t=some d) (hn:(match d with| .interface _=>false|_=>true)=true) (hx:ev env x=some v) :
    PureOp P env (.makeInterface t x) (.iface t v):=fun _ a w o Z ho=>by
  have h1:=Z.eval hx;cases d<;>simp at hn<;>simp [execOp,ho,h1,Instr.makeInterface,underlying,program,hd,Sem.run]
theorem p_func {fn:Fn} {first captured:Array Operand} {vs us:Array Value} (hv:first.toList.map (ev env)=vs.toList.map some) (hu:captured.toList.map (ev env)=us.toList.map some) :
    PureOp P env (.makeFunc fn first captured) (.func fn vs us):=fun _ a w o Z ho=>by
  have key: ∀(l:List Operand) (vs:List Value),l.map (ev env)=vs.map some->l.map a.eval=vs:=by
    intro l;induction l with
    |nil=>intro vs h;cases vs with
      |nil=>rfl
      |cons _ _=>simp at h
    |cons p l ih=>intro vs h;cases vs with
      |nil=>simp at h
      |cons q vs=>
        simp only [List.map_cons,List.cons.injEq] at h;simp only [List.map_cons,ih vs h.2,Z.eval h.1]
  have h1:=key _ _ hv;have h2:=key _ _ hu;rw [<-Array.toList_map] at h1 h2;simp only [execOp,ho,Array.toList_inj.1 h1,Array.toList_inj.1 h2,Instr.makeFunc,Sem.run_bind,Sem.run_pure,Result.andThen_ok]
def fieldOff (P:Program) (s:TypeId) (f:Nat):Option Nat:=
  match P.underlying s with
  |some (.struct fs)=>match fs[f]? with
    |some fl=>match P.info? fl.type with
      |some i=>if i.size=0 then none else some fl.offset
      |none=>none
    |none=>none
  |_=>none
theorem p_fieldAddr {s:TypeId} {x:Operand} {f b off n m:Nat} (hx:ev env x=some (.pointer (some ⟨b,off,none⟩))) (hf:fieldOff P s f=some n) (hm:off+n=m) :
    PureOp P env (.fieldAddr s x f) (.pointer (some ⟨b,m,none⟩)):=fun _ a w o Z ho=>by
  have h1:=Z.eval hx;subst hm;unfold fieldOff at hf;split at hf<;>try cases hf
  rename_i fs hs;split at hf<;>try cases hf
  rename_i fl hfl;split at hf<;>try cases hf
  rename_i i hi;split at hf<;>try cases hf
  rename_i hz;have hadd:(⟨b,off,none⟩:Addr).add fl.offset=⟨b,off+fl.offset,none⟩:=by unfold Addr.add;split<;>simp_all
  simp [execOp,ho,h1,Instr.fieldAt,underlying,program,hs,Sem.run,hfl,Instr.sureAddr,fieldPlace,sizeOf,typeInfo,hi,hz,hadd]
theorem p_indexAddr {t e:TypeId} {x y:Operand} {b off len cap size m:Nat} {k:IntKind} {i:Int} (hx:ev env x=some (.slice (some ⟨b,off,none⟩) len cap)) (hy:ev env y=some (.int k i))
    (ht:P.underlying t=some (.slice e)) (hs:(P.info? e).map (·.size)=some size) (h0:0<=i) (h1:i<len) (hm:off+i.toNat*size=m) :
    PureOp P env (.indexAddr t x y) (.pointer (some ⟨b,m,none⟩)):=fun _ a w o Z ho=>by
  have e1:=Z.eval hx;have e2:=Z.eval hy;subst hm;obtain ⟨inf,hi,rfl⟩:=Option.map_eq_some_iff.1 hs;have hadd: ∀n,(⟨b,off,none⟩:Addr).add n=⟨b,off+n,none⟩:=fun n=>by unfold Addr.add;split<;>simp_all
  simp [execOp,ho,e1,e2,Instr.indexAt,asIntOf,underlying,program,ht,Sem.run,sizeOf,typeInfo,hi,hadd,h0,h1]
theorem p_len {t:TypeId} {e:TypeId} {x:Operand} {A:Option Addr} {n c:Nat} {ts:Array TypeId} (hx:ev env x=some (.slice A n c)) (hts:ts[0]? =some t) (ht:P.underlying t=some (.slice e)) :
    PureOp P env (.call {callee:= .builtin .len,args:= #[x],argTypes:=ts}) (.int .i64 n):=fun _ a w o Z ho=>by
  have h1:=Z.eval hx;simp [execOp,ho,resolve,h1,invoke,builtin,Builtin.len_,hts,underlying,program,ht,Sem.run,goInt]
theorem p_slice {t e:TypeId} {x:Operand} {lo hi:Option Operand} {A:Option Addr} {n c size:Nat} {l h:Nat}
    (hx:ev env x=some (.slice A n c)) (ht:P.underlying t=some (.slice e)) (hs:(P.info? e).map (·.size)=some size)
    (hl:(match lo with|none=>some 0|some y=>match ev env y with|some (.int _ i)=>if 0<=i then some i.toNat else none|_=>none)=some l)
    (hh:(match hi with|none=>some n|some y=>match ev env y with|some (.int _ i)=>if 0<=i then some i.toNat else none|_=>none)=some h) (hlh:l<=h) (hhc:h<=c) :
    PureOp P env (.slice t x lo hi none) (.slice (if c=l then A else A.map (·.add (l*size))) (h - l) (c - l)):=fun _ a w o Z ho=>by
  have e1:=Z.eval hx;obtain ⟨inf,hi',rfl⟩:=Option.map_eq_some_iff.1 hs;have hb: ∀(y:Operand) (m:Nat) (lim:Nat) (code:BoundsCode),(match ev env y with|some (.int _ i)=>if 0<=i then some i.toNat else none|_=>none)=some m->m<=lim->
      ∀w,(Instr.sliceBound (a.eval y) lim code).run P w= .ok m w:=fun y m lim code hm hle w=>by
    split at hm<;>try cases hm
    rename_i k i hy;split at hm<;>try cases hm
    rename_i h0;have h2:i<=(lim:Int):=by omega
    simp [Instr.sliceBound,Z.eval hy,asIntOf,h0,h2]
  cases lo<;>cases hi<;>simp only [Option.some.injEq] at hl hh
  ·subst hl;subst hh;simp [execOp,ho,e1,Instr.sliceAt,Instr.slice,underlying,program,ht,Sem.run,Instr.sliceBounds,sizeOf,typeInfo,hi']
  ·subst hl;rename_i y;have:=hb y h c .sliceAcap hh hhc;simp [execOp,ho,e1,Instr.sliceAt,Instr.slice,underlying,program,ht,Sem.run,Instr.sliceBounds,sizeOf,typeInfo,hi',this]
  ·subst hh;rename_i y;have:=hb y l n .sliceB hl hlh;simp [execOp,ho,e1,Instr.sliceAt,Instr.slice,underlying,program,ht,Sem.run,Instr.sliceBounds,sizeOf,typeInfo,hi',this]
  ·rename_i y z;have h2:=hb z h c .sliceAcap hh hhc;have h3:=hb y l h .sliceB hl hlh;simp [execOp,ho,e1,Instr.sliceAt,Instr.slice,underlying,program,ht,Sem.run,Instr.sliceBounds,sizeOf,typeInfo,hi',h2,h3]
end
set_option linter.unusedVariables false
set_option linter.unusedSimpArgs false
section
variable {w0 w w':World} {D:Sto} {ss:List Seg}
theorem Inv.replace {s s':Seg} (h:Inv w0 D (s::ss) w) (hos:w'.os=w.os) (htape:w'.tape=w.tape) (hout:w'.output=w.output) (hsize:w.heap.size<=w'.heap.size)
    (hkeep: ∀b,b<w.heap.size->b ∉ s.map (·.1)->w'.heap[b]? =w.heap[b]?) (hnew: ∀p∈s',w'.heap[p.1]? =some p.2) (hn:(s'.map (·.1)).Nodup)
    (hat: ∀p∈s',p.1∈s.map (·.1)\/w.heap.size<=p.1):Inv w0 D (s'::ss) w':=by
  have hd:=h.drop;have hnd:=h.nodup;simp only [List.flatten_cons,List.map_append] at hnd;obtain ⟨h1,h2,h3⟩:=List.nodup_append.1 hnd;have hsD: ∀b,b∈s.map (·.1)->D b=none:=fun b hb=>by
    obtain ⟨p,hp,rfl⟩:=List.mem_map.1 hb;exact h.apart p (by simp [hp])
  have hlt: ∀b o,D b=some o->b<w.heap.size:=fun b o hb=>heap_lt (h.data b o hb);have hltO: ∀p∈ss.flatten,p.1<w.heap.size:=fun p hp=>heap_lt (hd.own p hp);refine ⟨hos.trans h.os,htape.trans h.tape,hout.trans h.output,Nat.le_trans h.size hsize,fun b o hb=> ?_,fun p hp=> ?_,fun p hp=> ?_, ?_⟩
  ·rw [hkeep b (hlt b o hb) (fun hm=>by rw [hsD b hm] at hb;cases hb)];exact h.data b o hb
  ·simp only [List.flatten_cons,List.mem_append] at hp;rcases hp with hp|hp
   ·exact hnew p hp
   ·rw [hkeep p.1 (hltO p hp) (fun hm=>h3 _ hm _ (List.mem_map_of_mem hp) rfl)];exact hd.own p hp
  ·simp only [List.flatten_cons,List.mem_append] at hp;rcases hp with hp|hp
   ·rcases hat p hp with hm|hge
    ·exact hsD _ hm
    ·cases hD:D p.1 with
     |none=>rfl
     |some o=>have:=hlt _ _ hD;omega
   ·exact hd.apart p hp
  ·simp only [List.flatten_cons,List.map_append];refine List.nodup_append.2 ⟨hn,h2,fun x hx y hy=> ?_⟩;intro e;subst e;obtain ⟨p,hp,rfl⟩:=List.mem_map.1 hx;obtain ⟨q,hq,he⟩:=List.mem_map.1 hy;rcases hat p hp with hm|hge
   ·exact h3 _ hm _ hy rfl
   ·have:=hltO q hq;omega
theorem set_perm {α:Type} {s x:α}: ∀(i:Nat) (l:List α),l[i]? =some s->(x::l.eraseIdx i).Perm (l.set i x)
  |_, [],h=>by simp at h
  |0,y::r,h=>by simp
  |i+1,y::r,h=>by
    have ih:=set_perm (x:=x) i r (by simpa using h);simp only [List.eraseIdx_cons_succ,List.set_cons_succ];exact (List.Perm.swap y x _).trans (ih.cons y)
theorem Inv.replace_at {s s':Seg} (i:Nat) (h:Inv w0 D ss w) (hi:ss[i]? =some s) (hos:w'.os=w.os) (htape:w'.tape=w.tape) (hout:w'.output=w.output) (hsize:w.heap.size<=w'.heap.size)
    (hkeep: ∀b,b<w.heap.size->b ∉ s.map (·.1)->w'.heap[b]? =w.heap[b]?) (hnew: ∀p∈s',w'.heap[p.1]? =some p.2) (hn:(s'.map (·.1)).Nodup)
    (hat: ∀p∈s',p.1∈s.map (·.1)\/w.heap.size<=p.1):Inv w0 D (ss.set i s') w':=
  ((h.perm (erase_perm i ss hi).flatten).replace hos htape hout hsize hkeep hnew hn hat).perm (set_perm i ss hi).symm.flatten
def insAt {α:Type}:Nat->α->List α->List α
  |0,x,l=>x::l
  |_+1,x, []=> [x]
  |i+1,x,y::r=>y::insAt i x r
theorem insAt_perm {α:Type} (x:α): ∀(i:Nat) (l:List α),(insAt i x l).Perm (x::l)
  |0,l=>List.Perm.refl _
  |_+1, []=>List.Perm.refl _
  |i+1,y::r=>((insAt_perm x i r).cons y).trans (List.Perm.swap x y r)
theorem Inv.new_at (i:Nat) (h:Inv w0 D ss w) (o:Obj):Inv w0 D (insAt i [(w.heap.size,o)] ss) {w with heap:=w.heap.push o}:=
  (h.new o).perm (insAt_perm _ i ss).flatten
theorem Inv.seg {b:Nat} {o:Obj} (i:Nat) (h:Inv w0 D ss w) (hi:ss[i]? =some [(b,o)]):w.heap[b]? =some o:=
  h.own (b,o) (List.mem_flatten.2 ⟨_,List.mem_of_getElem? hi,by simp⟩)
theorem Inv.segs {s:Seg} (i:Nat) (h:Inv w0 D ss w) (hi:ss[i]? =some s): ∀p∈s,w.heap[p.1]? =some p.2:=fun p hp=>
  h.own p (List.mem_flatten.2 ⟨_,List.mem_of_getElem? hi,hp⟩)
theorem Inv.turn_at {b:Nat} {o o':Obj} (i:Nat) (h:Inv w0 D ss w) (hi:ss[i]? =some [(b,o)]):Inv w0 D (ss.set i [(b,o')]) {w with heap:=w.heap.setIfInBounds b o'}:=by
  have hb:=h.seg i hi;refine h.replace_at i hi rfl rfl rfl (by simp) (fun k hk hm=> ?_) (fun p hp=> ?_) (by simp) (fun p hp=> ?_)
  ·simp only [List.map_cons,List.map_nil,List.mem_singleton] at hm;exact Array.getElem?_setIfInBounds_ne (fun e=>hm e.symm)
  ·simp only [List.mem_singleton] at hp;subst hp;exact Array.getElem?_setIfInBounds_self_of_lt (heap_lt hb)
  ·simp only [List.mem_singleton] at hp;subst hp;exact .inl (by simp)
end
section
variable {P:Program} {ops:Array Oper} {Q:Exit->Act->World->Prop} {a:Act} {w0 w w':World} {D:Sto} {ss:List Seg} {rest:List Oper} {o:Oper} {N:Nat} {env:Env}
def isScal (P:Program) (t:TypeId):Bool:=match P.underlying t with
  |some (.struct _)=>false
  |some (.array _ _)=>false
  |some _=>true
  |none=>false
def aggSize (P:Program) (t:TypeId):Option Nat:=match P.underlying t with
  |some (.struct _)=>(P.info? t).map (·.size)
  |some (.array _ _)=>(P.info? t).map (·.size)
  |_=>none
def RunOp (P:Program) (env:Env) (w:World) (op:Op) (v:Value):Prop:= ∀(N:Nat) (a:Act) (o:Oper),EnvOk N env a->o.op=op->(execOp a.eval o).run P w= .ok (.value v) w
theorem PureOp.run {op:Op} {v:Value} (h:PureOp P env op v):RunOp P env w op v:=fun N a o=>h N a w o
theorem isAgg_scal {t:TypeId} (h:isScal P t=true): ∀w,(isAgg t).run P w= .ok false w:=fun w=>by
  unfold isScal at h;split at h<;>try cases h
  rename_i d h1 h2 hd;cases d<;>first|exact absurd rfl (h1 _)|exact absurd rfl (h2 _ _)|simp [isAgg,underlying,program,hd,Sem.run]
theorem isAgg_agg {t:TypeId} {n:Nat} (h:aggSize P t=some n): ∀w,(isAgg t).run P w= .ok true w/\(sizeOf t).run P w= .ok n w:=fun w=>by
  unfold aggSize at h;split at h<;>try cases h
  all_goals
    rename_i hd;obtain ⟨i,hi,rfl⟩:=Option.map_eq_some_iff.1 h;simp [isAgg,underlying,program,hd,Sem.run,sizeOf,typeInfo,hi]
theorem addr_add (b off n:Nat):(⟨b,off,none⟩:Addr).add n=⟨b,off+n,none⟩:=by unfold Addr.add;split<;>simp_all
theorem cell_of {b:Nat} {cs:Array Value} {T:TypeId} {fr:Nat×Nat} (hc:w.heap[b]? =some (.cells cs T fr)) (i:Nat):w.cell? ⟨b,i,none⟩=cs[i]? :=by simp [World.cell?,hc]
theorem run_load_at {ad:Addr} {v:Value} (h:w.cell? ad=some v):(load ad).run P w= .ok v w:=by simp [load,Sem.run,h]
theorem loadCells_row {b off:Nat} {cs:Array Value} {T:TypeId} {fr:Nat×Nat} (hc:w.heap[b]? =some (.cells cs T fr)): ∀(n i:Nat) (acc:Array Value),off+i+n<=cs.size->
    (loadCellsFrom ⟨b,off,none⟩ i n acc).run P w= .ok (acc++cs.extract (off+i) (off+i+n)) w
  |0,i,acc,_=>by
    have:cs.extract (off+i) (off+i+0)= #[]:=by simp;omega
    simp only [loadCellsFrom,this];simp
  |n+1,i,acc,h=>by
    have hlt:off+i<cs.size:=by omega
    have h1:(load ((⟨b,off,none⟩:Addr).add i)).run P w= .ok cs[off+i] w:=run_load_at (by rw [addr_add,cell_of hc,Array.getElem?_eq_getElem hlt]);have ih:=loadCells_row (off:=off) hc n (i+1) (acc.push cs[off+i]) (by omega);simp only [loadCellsFrom,Sem.run_bind,h1,Result.andThen_ok,ih];congr 1;apply Array.ext_getElem?;intro j;simp only [Array.getElem?_append,Array.size_push,Array.getElem?_push,Array.getElem?_extract];by_cases h1:j<acc.size
    ·simp [h1,show j<acc.size+1 by omega,show j≠acc.size by omega]
    ·by_cases h2:j=acc.size
     ·subst h2;simp [hlt];omega
     ·simp [h1,show¬j<acc.size+1 by omega];have e1:off+(i+1)+(j - (acc.size+1))=off+i+(j - acc.size):=by omega
      rw [e1];have e2:(j - (acc.size+1)<min (off+(i+1)+n) cs.size - (off+(i+1)))↔(j - acc.size<min (off+i+(n+1)) cs.size - (off+i)):=by omega
      simp only [e2]
theorem r_load {t:TypeId} {x:Operand} {b off:Nat} {cs:Array Value} {T:TypeId} {fr:Nat×Nat} {v:Value} (hx:ev env x=some (.pointer (some ⟨b,off,none⟩))) (ht:isScal P t=true)
    (hc:w.heap[b]? =some (.cells cs T fr)) (hv:cs[off]? =some v):RunOp P env w (.load t x) v:=fun _ a o Z ho=>by
  have h1:=Z.eval hx;have h2:(load ⟨b,off,none⟩).run P w= .ok v w:=run_load_at (by rw [cell_of hc,hv]);simp only [execOp,ho,h1,Instr.loadAt,Instr.sureAddr,loadVar,Sem.run_bind,Sem.run_pure,isAgg_scal ht w,Result.andThen_ok,Bool.false_eq_true,if_false,h2]
theorem r_loadA {t:TypeId} {x:Operand} {b off n:Nat} {cs vs:Array Value} {T:TypeId} {fr:Nat×Nat} (hx:ev env x=some (.pointer (some ⟨b,off,none⟩))) (ht:aggSize P t=some n)
    (hc:w.heap[b]? =some (.cells cs T fr)) (hle:off+n<=cs.size) (hv:cs.extract off (off+n)=vs):RunOp P env w (.load t x) (.agg vs):=fun _ a o Z ho=>by
  have h1:=Z.eval hx;have h3:=isAgg_agg ht w;have h2:=loadCells_row (P:=P) (off:=off) hc n 0 #[] (by omega);simp only [Nat.add_zero,Array.empty_append,hv] at h2;simp only [execOp,ho,h1,Instr.loadAt,Instr.sureAddr,loadVar,Sem.run_bind,Sem.run_pure,h3.1,h3.2,Result.andThen_ok,if_true,loadCells,h2]
def splice (cs:Array Value) (off:Nat):List Value->Array Value
  | []=>cs
  |v::r=>splice (cs.setIfInBounds off v) (off+1) r
theorem size_splice: ∀(vs:List Value) (cs:Array Value) (off:Nat),(splice cs off vs).size=cs.size
  | [],_,_=>rfl
  |v::r,cs,off=>by simp [splice,size_splice r]
theorem heap_ext {w:World} {h h':Array Obj} (he: ∀k:Nat,h[k]? =h'[k]?):({w with heap:=h}:World)={w with heap:=h'}:=by rw [Array.ext_getElem? he]
theorem setCell_block {b:Nat} {cs:Array Value} {T:TypeId} {fr:Nat×Nat} (hc:w.heap[b]? =some (.cells cs T fr)) (i:Nat) (v:Value) :
    w.setCell ⟨b,i,none⟩ v={w with heap:=w.heap.setIfInBounds b (.cells (cs.setIfInBounds i v) T fr)}:=by
  unfold World.setCell;refine heap_ext fun k=> ?_;rw [Array.getElem?_modify];by_cases hk:b=k
  ·subst hk;rw [Array.getElem?_setIfInBounds_self_of_lt (heap_lt hc)];simp [hc]
  ·rw [Array.getElem?_setIfInBounds_ne hk];simp [hk]
theorem set_self {b:Nat} {o:Obj} (hc:w.heap[b]? =some o):({w with heap:=w.heap.setIfInBounds b o}:World)=w:=by
  have:w={w with heap:=w.heap}:=rfl
  conv=>rhs;rw [this]
  refine heap_ext fun k=> ?_;by_cases hk:b=k
  ·subst hk;rw [Array.getElem?_setIfInBounds_self_of_lt (heap_lt hc),hc]
  ·rw [Array.getElem?_setIfInBounds_ne hk]
theorem run_store_cell {b i:Nat} {cs:Array Value} {T:TypeId} {v:Value} (hc:w.heap[b]? =some (.cells cs T (0,0))) (hi:i<cs.size) (h1:v.oneCell'=true) :
    (store ⟨b,i,none⟩ v).run P w= .ok () {w with heap:=w.heap.setIfInBounds b (.cells (cs.setIfInBounds i v) T (0,0))}:=by
  have hcell:w.cell? ⟨b,i,none⟩=some cs[i]:=by rw [cell_of hc,Array.getElem?_eq_getElem hi]
  have hfro:w.frozen? ⟨b,i,none⟩=false:=by simp [World.frozen?,hc]
  rw [run_store P w _ v _ h1,hcell];simp [hfro,setCell_block hc]
theorem set_set (w:World) (b:Nat) (o o':Obj):({({w with heap:=w.heap.setIfInBounds b o}:World) with heap:=({w with heap:=w.heap.setIfInBounds b o}:World).heap.setIfInBounds b o'}:World)={w with heap:=w.heap.setIfInBounds b o'}:=by simp
theorem run_storeCells_off {b:Nat} {T:TypeId}: ∀(vs:List Value) (off i:Nat) (cs:Array Value) (w:World),w.heap[b]? =some (.cells cs T (0,0))->off+i+vs.length<=cs.size->(∀v∈vs,v.oneCell'=true)->
    (storeCells ⟨b,off,none⟩ vs i).run P w= .ok () {w with heap:=w.heap.setIfInBounds b (.cells (splice cs (off+i) vs) T (0,0))}
  | [],off,i,cs,w,hc,_,_=>by
    simp only [storeCells,splice];rw [set_self hc];rfl
  |v::r,off,i,cs,w,hc,hl,h1=>by
    have hst:=run_store_cell (P:=P) hc (i:=off+i) (by simp at hl;omega) (h1 v (by simp));have hc':({w with heap:=w.heap.setIfInBounds b (.cells (cs.setIfInBounds (off+i) v) T (0,0))}:World).heap[b]? =some (.cells (cs.setIfInBounds (off+i) v) T (0,0)):=
      Array.getElem?_setIfInBounds_self_of_lt (heap_lt hc)
    have ih:=run_storeCells_off (b:=b) (T:=T) r off (i+1) _ _ hc' (by simp at hl ⊢;omega) (fun x hx=>h1 x (by simp [hx]));simp only [storeCells,Sem.run_bind,addr_add,hst,Result.andThen_ok,ih,splice];rw [set_set,show off+(i+1)=off+i+1 by omega]
variable {K:Act->World->Prop}
theorem o_val {v:Value} (hr:(execOp a.eval o).run P w= .ok (.value v) w') (k:K (a.put o.dst v) w'):o.wp P a w K Q:=by unfold Oper.wp;rw [hr];exact k
theorem o_skip (hr:(execOp a.eval o).run P w= .ok .skip w') (k:K (a.put o.dst undef) w'):o.wp P a w K Q:=by unfold Oper.wp;rw [hr];exact k
theorem l_step (hg:o.guard=none) (h:o.wp P a w (wpList P ops Q rest) Q):wpList P ops Q (o::rest) a w:=by unfold wpList;rw [if_pos (by simp [Region.wanted,hg])];exact .inl h
theorem o_store {t:TypeId} {x y:Operand} {b off:Nat} {cs cs':Array Value} {T:TypeId} {v:Value} {ss':List Seg} (i:Nat) (Z:EnvOk N env a) (I:Inv w0 D ss w) (hd:o.dst=none) (ho:o.op= .store t x y)
    (hx:ev env x=some (.pointer (some ⟨b,off,none⟩))) (hy:ev env y=some v) (hi:ss[i]? =some [(b, .cells cs T (0,0))]) (hsz:(P.info? t).map (·.size)=some v.cells.size)
    (h1:v.cells.all (·.oneCell')=true) (hle:Nat.ble (off+v.cells.size) cs.size=true) (hcs:splice cs off v.cells.toList=cs') (hss:ss.set i [(b, .cells cs' T (0,0))]=ss')
    (k: ∀w',Inv w0 D ss' w'->K a w'):o.wp P a w K Q:=by
  subst hcs;subst hss;have hc:=I.seg i hi;have h:=run_storeCells_off (P:=P) v.cells.toList off 0 cs w hc (by have:=Nat.le_of_ble_eq_true hle;simpa using this) (fun u hu=>(Array.all_eq_true_iff_forall_mem.1 h1) u (by simpa using hu));obtain ⟨inf,hinf,hs⟩:=Option.map_eq_some_iff.1 hsz;have hrun:(execOp a.eval o).run P w= .ok .skip {w with heap:=w.heap.setIfInBounds b (.cells (splice cs off v.cells.toList) T (0,0))}:=by simp only [Nat.add_zero] at h;simp [execOp,ho,Z.eval hx,Z.eval hy,Instr.storeAt,Instr.sureAddr,storeVar,sizeOf,typeInfo,hinf,hs,h]
  refine o_skip hrun ?_;rw [hd];exact k _ (I.turn_at i hi)
theorem run_newRow {t:TypeId} {cs:Array Value}:(newRow t cs).run P w= .ok ⟨w.heap.size,0,none⟩ {w with heap:=w.heap.push (.cells cs t (0,0))}:=by simp [newRow,newObj,Sem.run]
theorem o_box {t:TypeId} {x:Operand} {d:Nat} {v:Value} {cs:Array Value} {ss':Nat->List Seg} (i:Nat) (Z:EnvOk N env a) (I:Inv w0 D ss w) (hd:o.dst=some d) (hN:Nat.blt d N=true) (ho:o.op= .box t x)
    (hx:ev env x=some v) (hcs:v.cells=cs) (hss: ∀b,insAt i [(b, .cells cs t (0,0))] ss=ss' b)
    (k: ∀a' b w',EnvOk N ((d, .pointer (some ⟨b,0,none⟩))::env) a'->Inv w0 D (ss' b) w'->K a' w'):o.wp P a w K Q:=by
  subst hcs;have hrun:(execOp a.eval o).run P w= .ok (.value (.pointer (some ⟨w.heap.size,0,none⟩))) {w with heap:=w.heap.push (.cells v.cells t (0,0))}:=by simp [execOp,ho,Z.eval hx,Instr.box,newVar,run_newRow]
  exact o_val hrun (by rw [hd];exact k _ w.heap.size _ (Z.put hN _) (hss _▸I.new_at i _))
theorem o_alloc {t:TypeId} {d:Nat} {z:Value} {cs:Array Value} {ss':Nat->List Seg} (i:Nat) (Z:EnvOk N env a) (I:Inv w0 D ss w) (hd:o.dst=some d) (hN:Nat.blt d N=true) (ho:o.op= .alloc t)
    (hz:(P.info? t).bind (·.zero)=some z) (hcs:z.cells=cs) (hss: ∀b,insAt i [(b, .cells cs t (0,0))] ss=ss' b)
    (k: ∀a' b w',EnvOk N ((d, .pointer (some ⟨b,0,none⟩))::env) a'->Inv w0 D (ss' b) w'->K a' w'):o.wp P a w K Q:=by
  subst hcs;obtain ⟨inf,hinf,hz'⟩:=Option.bind_eq_some_iff.1 hz;have hrun:(execOp a.eval o).run P w= .ok (.value (.pointer (some ⟨w.heap.size,0,none⟩))) {w with heap:=w.heap.push (.cells z.cells t (0,0))}:=by simp [execOp,ho,Instr.alloc,zeroValue,typeInfo,hinf,hz',newVar,run_newRow]
  exact o_val hrun (by rw [hd];exact k _ w.heap.size _ (Z.put hN _) (hss _▸I.new_at i _))
theorem p_build {t:TypeId} {parts:Array (Nat×Operand)} {vs:List (Nat×Value)} {cells:Array Value} (hv:parts.toList.map (fun p=>(p.1,ev env p.2))=vs.map (fun p=>(p.1,some p.2))) (hb:P.built t vs=some cells) :
    PureOp P env (.build t parts) (.agg cells):=fun _ a w o Z ho=>by
  have key: ∀(l:List (Nat×Operand)) (vs:List (Nat×Value)),l.map (fun p=>(p.1,ev env p.2))=vs.map (fun p=>(p.1,some p.2))->l.map (fun p=>(p.1,a.eval p.2))=vs:=by
    intro l;induction l with
    |nil=>intro vs h;cases vs with
      |nil=>rfl
      |cons _ _=>simp at h
    |cons p l ih=>intro vs h;cases vs with
      |nil=>simp at h
      |cons q vs=>
        simp only [List.map_cons,List.cons.injEq,Prod.mk.injEq] at h;simp only [List.map_cons,ih vs h.2,Z.eval h.1.2,h.1.1]
  have h:(parts.map fun (i,x)=>(i,a.eval x)).toList=vs:=by rw [Array.toList_map];exact key _ _ hv
  have hr:=run_build (P:=P) w t (parts.map fun (i,x)=>(i,a.eval x)) cells (by rw [h];exact hb);simp only [execOp,ho,Sem.run_bind,hr,Result.andThen_ok,Sem.run_pure]
end
section
variable {P:Program} {ops:Array Oper} {Q:Exit->Act->World->Prop} {a:Act} {w0 w w':World} {D:Sto} {ss:List Seg} {rest:List Oper} {o:Oper} {N:Nat} {env:Env} {K:Act->World->Prop}
def Ret (R:Value->World->Prop):Ending->World->Prop:=fun e w=> ∃r,e= .returned r/\R r w
def enters (P:Program) (f:FuncId):Bool:=match P.funcs[f]? with
  |some fn=>fn.name != "runtime.NumGoroutine" && fn.body.isSome
  |none=>false
theorem args_of {xs:Array Operand} {vs:Array Value} (Z:EnvOk N env a) (hv:xs.toList.map (ev env)=vs.toList.map some):xs.map a.eval=vs:=by
  have key: ∀(l:List Operand) (vs:List Value),l.map (ev env)=vs.map some->l.map a.eval=vs:=by
    intro l;induction l with
    |nil=>intro vs h;cases vs with
      |nil=>rfl
      |cons _ _=>simp at h
    |cons p l ih=>intro vs h;cases vs with
      |nil=>simp at h
      |cons q vs=>
        simp only [List.map_cons,List.cons.injEq] at h;simp only [List.map_cons,ih vs h.2,Z.eval h.1]
  have h:=key _ _ hv;rw [<-Array.toList_map] at h;exact Array.toList_inj.1 h
theorem callFunc_enters {f:FuncId} {vs:Array Value} (hf:enters P f=true):(callFunc f vs).run P w= .ok (.enter f vs) w:=by
  unfold enters at hf;split at hf
  ·rename_i fn hfn;simp only [Bool.and_eq_true,bne_iff_ne,ne_eq] at hf;have h2:fn.body.isNone=false:=by cases hb:fn.body<;>simp [hb] at hf ⊢
   have h3:fn.body≠none:=fun e=>by rw [e] at h2;cases h2
   simp [callFunc,program,Sem.run,hfn,hf.1,h3]
  ·cases hf
theorem upon_ret {f:FuncId} {vs:Array Value} {R:Value->World->Prop} (hrun:(execOp a.eval o).run P w= .ok (.enter f vs) w) (hc:Calls P f vs w (Ret R))
    (k: ∀r w',R r w'->K (a.put o.dst r) w'):o.wp P a w K Q:=by
  unfold Oper.wp;rw [hrun,Oper.upon_enter];refine hc.mono fun e w' he=> ?_;obtain ⟨r,rfl,hr⟩:=he;exact k r w' hr
theorem o_call {f:FuncId} {xs:Array Operand} {ts:Array TypeId} {vs:Array Value} {d:Nat} {R:Value->World->Prop} (Z:EnvOk N env a) (hd:o.dst=some d) (hN:Nat.blt d N=true)
    (ho:o.op= .call {callee:= .value (.func f),args:=xs,argTypes:=ts}) (hv:xs.toList.map (ev env)=vs.toList.map some) (hf:enters P f=true) (hc:Calls P f vs w (Ret R))
    (k: ∀r w',R r w'-> ∀a',EnvOk N ((d,r)::env) a'->K a' w'):o.wp P a w K Q:=by
  have hargs:=args_of Z hv;have hrun:(execOp a.eval o).run P w= .ok (.enter f vs) w:=by simp [execOp,ho,resolve,Act.eval,Deferred.ofValue,invoke,hargs,callFunc_enters hf]
  exact upon_ret hrun hc fun r w' hr=>k r w' hr _ (hd▸Z.put hN r)
theorem o_callv {x:Operand} {f:FuncId} {first captured:Array Value} {xs:Array Operand} {ts:Array TypeId} {vs us:Array Value} {d:Nat} {R:Value->World->Prop} (Z:EnvOk N env a) (hd:o.dst=some d) (hN:Nat.blt d N=true)
    (ho:o.op= .call {callee:= .value x,args:=xs,argTypes:=ts}) (hx:ev env x=some (.func (.func f) first captured)) (hv:xs.toList.map (ev env)=vs.toList.map some) (hu:first++vs++captured=us)
    (hf:enters P f=true) (hc:Calls P f us w (Ret R))
    (k: ∀r w',R r w'-> ∀a',EnvOk N ((d,r)::env) a'->K a' w'):o.wp P a w K Q:=by
  subst hu;have hargs:=args_of Z hv;have hrun:(execOp a.eval o).run P w= .ok (.enter f (first++vs++captured)) w:=by simp [execOp,ho,resolve,Z.eval hx,Deferred.ofValue,invoke,hargs,callFunc_enters hf]
  exact upon_ret hrun hc fun r w' hr=>k r w' hr _ (hd▸Z.put hN r)
theorem iff_t {p:Prop} (h:true=true↔p):p:=h.1 rfl
theorem iff_f {p:Prop} (h:false=true↔p): ¬p:=fun hp=>Bool.noConfusion (h.2 hp)
theorem Inv.put_back {s:Seg} (i:Nat) (h:Inv w0 D (s::ss) w):Inv w0 D (insAt i s ss) w:=h.perm (insAt_perm s i ss).flatten
theorem then_normal {next:Act->World->Prop} (h:next a w):Exit.then next Q .normal a w:=h
theorem then_ret {next:Act->World->Prop} (h:Q .ret a w):Exit.then next Q .ret a w:=h
theorem then_exit {next:Act->World->Prop} {id:Nat} (h:Q (.exit id) a w):Exit.then next Q (.exit id) a w:=h
theorem blk_normal {id:Nat} (h:Q .normal a w):Exit.inBlock id Q .normal a w:=h
theorem blk_ret {id:Nat} (h:Q .ret a w):Exit.inBlock id Q .ret a w:=h
theorem blk_same {id:Nat} (h:Q .normal a w):Exit.inBlock id Q (.exit id) a w:=by simp [Exit.inBlock,h]
theorem blk_other {id id':Nat} (hne:Nat.beq id' id=false) (h:Q (.exit id') a w):Exit.inBlock id Q (.exit id') a w:=by
  have:id'≠id:=fun e=>by subst e;simp at hne
  simp [Exit.inBlock,this,h]
theorem c_true {c:Operand} {x y:Code} (Z:EnvOk N env a) (hc:ev env c=some (.bool true)) (h:x.wp P Q a w):(Code.cond c x y).wp P Q a w:=wp_cond_true (Z.eval hc) h
theorem c_false {c:Operand} {x y:Code} (Z:EnvOk N env a) (hc:ev env c=some (.bool false)) (h:y.wp P Q a w):(Code.cond c x y).wp P Q a w:=wp_cond_false (Z.eval hc) h
theorem c_loop {X:Type} {c:Code} (en:X->Env) (W:X->World->Prop) (m:X->Nat) (x0:X) (Z:EnvOk N (en x0) a) (hW:W x0 w)
    (round: ∀x a w,EnvOk N (en x) a->W x w->c.wp P (Exit.then (fun a' w'=> ∃x',EnvOk N (en x') a'/\W x' w'/\m x'<m x) Q) a w):(Code.loop c).wp P Q a w:=by
  intro b k cs;have key: ∀n x a w,m x=n->EnvOk N (en x) a->W x w->
      ∃e a' w',Q e a' w'/\Arrives P (lone (b.at a (.code c:: .inLoop c::k)) cs w) b k cs e a' w':=by
    intro n;induction n using Nat.strongRecOn with
    |_ n ih=>
      intro x a w hn Z hW;obtain ⟨e,a₁,w₁,hq,harr⟩:=round x a w Z hW b (.inLoop c::k) cs;cases e with
      |normal=>
        obtain ⟨x',hE',hW',hlt⟩:=hq;obtain ⟨e₂,a₂,w₂,hq₂,harr₂⟩:=ih (m x') (hn▸hlt) x' a₁ w₁ rfl hE' hW';exact ⟨e₂,a₂,w₂,hq₂, .of_steps (Steps.trans harr (.one step_inLoop)) harr₂⟩
      |exit id=>exact ⟨_,a₁,w₁,hq, .pass (x:= .inLoop c) rfl (fun _ _=> .inl (by simp)) harr⟩
      |goto l=>exact ⟨_,a₁,w₁,hq, .pass (x:= .inLoop c) rfl (fun _ _=> .inl (by simp)) harr⟩
      |ret=>exact ⟨_,a₁,w₁,hq, .pass (x:= .inLoop c) rfl (fun _ _=> .inl (by simp)) harr⟩
      |panic ch=>exact ⟨_,a₁,w₁,hq, .pass (x:= .inLoop c) rfl (fun _ _=> .inl (by simp)) harr⟩
      |outgrown=>exact ⟨_,a₁,w₁,hq, .pass (x:= .inLoop c) rfl (fun _ _=> .inl (by simp)) harr⟩
  obtain ⟨e,a',w',hq,harr⟩:=key _ x0 a w rfl Z hW;exact ⟨e,a',w',hq, .of_steps (.one step_loop) harr⟩
theorem c_cutb {x y:Code} (slots:List Nat) (d:Nat) (p:Prop) (Z:EnvOk N env a)
    (h:x.wp P (Exit.then (fun a' w'=>w'=w/\ ∃b:Bool,(b=true↔p)/\EnvOk N ((d, .bool b)::pick env slots) a') Q) a w)
    (k: ∀(b:Bool) a',(b=true↔p)->EnvOk N ((d, .bool b)::pick env slots) a'->y.wp P Q a' w):(Code.seq x y).wp P Q a w:=
  wp_seq (wp_mono h fun e a' w' q=>by
    cases e<;>first|exact q|(obtain ⟨rfl,b,hb,hE'⟩:=q;exact k b a' hb hE'))
def numbered:Nat->List Value->Env
  |_, []=> []
  |i,v::r=>(i,v)::numbered (i+1) r
theorem look_numbered: ∀(vs:List Value) (i t:Nat) (v:Value),look (numbered i vs) t=some v->i<=t/\vs[t - i]? =some v
  | [],i,t,v,h=>by simp [numbered,look] at h
  |u::r,i,t,v,h=>by
    simp only [numbered,look_cons] at h;split at h
    ·rename_i e;subst e;simpa using h
    ·rename_i e;obtain ⟨h1,h2⟩:=look_numbered r (i+1) t v h;refine ⟨by omega, ?_⟩;rw [show t - i=(t - (i+1))+1 by omega];simpa using h2
theorem enter {f:FuncId} {fn:Func} {c:Code} {vs:Array Value} {R:Ending->World->Prop} (hf:P.funcs[f]? =some fn) (hb:fn.body=some c) (hn:fn.ntmps=N) (hs:Nat.ble vs.size N=true)
    (h: ∀a,EnvOk N (numbered 0 vs.toList) a->c.wp P (bodyPost P fn R) a w):Calls P f vs w R:=by
  have hle:=Nat.le_of_ble_eq_true hs;refine calls_of_wp hf hb (h _ ⟨rfl,by simp [hn];omega,fun t v ht=> ?_⟩);obtain ⟨_,h2⟩:=look_numbered _ 0 t v ht;have h3:vs[t]? =some v:=by simpa using h2
  rw [Array.getElem?_append_left (Array.getElem?_eq_some_iff.1 h3).1];exact h3
theorem look_at (Z:EnvOk N env a) {t:Nat} {v:Value} (h:look env t=some v):a.tmps.getD t undef=v:=by rw [Array.getD_eq_getD_getElem?,Z.get t v h];rfl
theorem look_at' (Z:EnvOk N env a) {t:Nat} {v:Value} (h:look env t=some v):a.tmps[t]?.getD undef=v:=by rw [Z.get t v h];rfl
section
variable {fn:Func} {R:Value->World->Prop}
theorem ret0 (hr:fn.results= #[]) (Z:EnvOk N env a) (h:R (.tuple #[]) w):bodyPost P fn (Ret R) .normal a w:=
  ⟨Z.defers,_,results_none hr _ _ _,_,rfl,h⟩
theorem ret0r (hr:fn.results= #[]) (Z:EnvOk N env a) (h:R (.tuple #[]) w):bodyPost P fn (Ret R) .ret a w:=
  ⟨Z.defers,_,results_none hr _ _ _,_,rfl,h⟩
theorem ret1 {t:Nat} {v:Value} (hr:fn.results= #[.tmp t]) (Z:EnvOk N env a) (hv:look env t=some v) (h:R v w):bodyPost P fn (Ret R) .ret a w:=
  ⟨Z.defers,_,results_tmp hr _ _ _,_,rfl,by rw [look_at Z hv];exact h⟩
theorem ret2 {t u:Nat} {v v':Value} (hr:fn.results= #[.tmp t, .tmp u]) (Z:EnvOk N env a) (hv:look env t=some v) (hv':look env u=some v') (h:R (.tuple #[v,v']) w):bodyPost P fn (Ret R) .ret a w:=
  ⟨Z.defers,_,results_tmp2 hr _ _ _,_,rfl,by rw [look_at Z hv,look_at Z hv'];exact h⟩
theorem ret3 {t u s:Nat} {v v' v'':Value} (hr:fn.results= #[.tmp t, .tmp u, .tmp s]) (Z:EnvOk N env a) (hv:look env t=some v) (hv':look env u=some v') (hv'':look env s=some v'') (h:R (.tuple #[v,v',v'']) w):bodyPost P fn (Ret R) .ret a w:=
  ⟨Z.defers, .tuple #[v,v',v''],by simp [results,hr,look_at' Z hv,look_at' Z hv',look_at' Z hv''],_,rfl,h⟩
theorem run_loadVar_agg {t:TypeId} {b off n:Nat} {cs vs:Array Value} {T:TypeId} {fr:Nat×Nat} (ht:aggSize P t=some n) (hc:w.heap[b]? =some (.cells cs T fr)) (hle:off+n<=cs.size) (hv:cs.extract off (off+n)=vs) :
    (loadVar t ⟨b,off,none⟩).run P w= .ok (.agg vs) w:=by
  have h3:=isAgg_agg ht w;have h2:=loadCells_row (P:=P) (off:=off) hc n 0 #[] (by omega);simp only [Nat.add_zero,Array.empty_append,hv] at h2;simp only [loadVar,Sem.run_bind,Sem.run_pure,h3.1,h3.2,Result.andThen_ok,if_true,loadCells,h2]
theorem retc1 {p:Nat} {ty:TypeId} {b n:Nat} {cs:Array Value} {T:TypeId} {fr:Nat×Nat} (hr:fn.results= #[.cell p ty]) (Z:EnvOk N env a) (hp:look env p=some (.pointer (some ⟨b,0,none⟩))) (ht:aggSize P ty=some n)
    (hc:w.heap[b]? =some (.cells cs T fr)) (hle:n=cs.size) (h:R (.agg cs) w):bodyPost P fn (Ret R) .ret a w:=by
  have h1:=run_loadVar_agg (off:=0) ht hc (by omega) (vs:=cs) (by simp [hle]);exact ⟨Z.defers, .agg cs,by simp [results,hr,look_at' Z hp,asAddr,h1],_,rfl,h⟩
theorem retc2 {p u:Nat} {ty:TypeId} {b n:Nat} {cs:Array Value} {T:TypeId} {fr:Nat×Nat} {v:Value} (hr:fn.results= #[.cell p ty, .tmp u]) (Z:EnvOk N env a) (hp:look env p=some (.pointer (some ⟨b,0,none⟩))) (ht:aggSize P ty=some n)
    (hc:w.heap[b]? =some (.cells cs T fr)) (hle:n=cs.size) (hu:look env u=some v) (h:R (.tuple #[.agg cs,v]) w):bodyPost P fn (Ret R) .ret a w:=by
  have h1:=run_loadVar_agg (off:=0) ht hc (by omega) (vs:=cs) (by simp [hle]);exact ⟨Z.defers, .tuple #[.agg cs,v],by simp [results,hr,look_at' Z hp,look_at' Z hu,asAddr,h1],_,rfl,h⟩
end
def wantedE (ops:Array Oper) (env:Env) (o:Oper):Option Bool:=match o.guard with
  |none=>some true
  |some (j,want)=>match (ops[j]?).bind (·.dst) with
    |some t=>match look env t with
      |some (.bool b)=>some (b==want)
      |some (.tuple _)=>some false
      |_=>none
    |none=>none
theorem wanted_of {c:Bool} (Z:EnvOk N env a) (h:wantedE ops env o=some c):Region.wanted o (yielded ops a.tmps)=c:=by
  unfold wantedE at h;unfold Region.wanted;split at h
  ·rename_i hg;rw [hg];injection h
  ·rename_i j want hg;rw [hg];split at h<;>try cases h
   rename_i t ht;split at h<;>try cases h
   ·rename_i b hb;have:=Z.get t _ hb;simp only [yielded,ht,Option.bind_some,this];cases b<;>cases want<;>rfl
   ·rename_i b hb;have:=Z.get t _ hb;simp only [yielded,ht,Option.bind_some,this];cases want<;>rfl
theorem l_go (Z:EnvOk N env a) (hw:wantedE ops env o=some true) (h:o.wp P a w (wpList P ops Q rest) Q):wpList P ops Q (o::rest) a w:=by unfold wpList;rw [if_pos (wanted_of Z hw)];exact .inl h
theorem l_skip {d:Nat} (Z:EnvOk N env a) (hw:wantedE ops env o=some false) (hd:o.dst=some d) (hN:Nat.blt d N=true) (h: ∀a',EnvOk N ((d,undef)::env) a'->wpList P ops Q rest a' w):wpList P ops Q (o::rest) a w:=by unfold wpList;rw [if_neg (by rw [wanted_of Z hw];simp),hd];exact h _ (Z.put hN _)
theorem o_pure {d:Nat} {v:Value} (Z:EnvOk N env a) (hd:o.dst=some d) (hN:Nat.blt d N=true) (hp:RunOp P env w o.op v) (k: ∀a',EnvOk N ((d,v)::env) a'->K a' w):o.wp P a w K Q:=
  o_val (hp _ a o Z rfl) (by rw [hd];exact k _ (Z.put hN v))
section
variable {S:World->Prop} {fuel:Nat} {listed listed':Array Bool}
theorem wpOp_go {i:Nat} (Z:EnvOk N env a) (hi:ops[i]? =some o) (hw:wantedE ops env o=some true) (h:o.wp P a w K Q):wpOp P ops Q i K a w:=by unfold wpOp;simp only [hi,wanted_of Z hw,if_true];exact .inl h
end
end
section
variable {w0 w w':World} {D D':Sto} {ss:List Seg}
theorem Inv.weaken (h:Inv w0 D' ss w) (hD:Le D D'):Inv w0 D ss w:=
  ⟨h.os,h.tape,h.output,h.size,fun b o hb=>h.data b o (hD b o hb),h.own,fun p hp=>(by
    cases hb:D p.1 with
    |none=>rfl
    |some o=>have:=hD _ _ hb;rw [h.apart p hp] at this;cases this),h.nodup⟩
theorem Inv.erase (i:Nat) (h:Inv w0 D ss w):Inv w0 D (ss.eraseIdx i) w:=by
  cases hi:ss[i]? with
  |none=>
    have:ss.eraseIdx i=ss:=List.eraseIdx_of_length_le (by
      have:=List.getElem?_eq_none_iff.1 hi;exact this)
    rw [this];exact h
  |some s=>exact (h.perm (erase_perm i ss hi).flatten).drop
theorem Inv.shut_at {s:Seg} (i:Nat) (h:Inv w0 D ss w) (hi:ss[i]? =some s):Inv w0 (Sto.put D s) (ss.eraseIdx i) w/\Le D (Sto.put D s):=
  let h':=h.perm (erase_perm i ss hi).flatten
  ⟨h'.shut,h'.le_shut⟩
theorem Sto.put_one (D:Sto) (b:Nat) (o:Obj):Sto.put D [(b,o)] b=some o:=by simp [Sto.put]
theorem Inv.start (w:World):Inv w (fun b=>w.heap[b]?) [] w:=
  ⟨rfl,rfl,rfl,Nat.le_refl _,fun _ _ h=>h,by simp,by simp,by simp⟩
end
structure Row (T size:Nat) (v:Value) (n:Nat) (xs:List Value) (s:Seg):Prop where
  len:xs.length=n*size
  at_:(v= .slice none 0 0/\n=0/\s= [])\/ ∃g cap cur,v= .slice (some ⟨g,0,none⟩) n cap/\s= [(g, .cells cur T (0,0))]/\n<=cap/\cap<=maxLen/\cur.size=cap*size/\cur.toList.take (n*size)=xs
theorem Row.nil (T size:Nat):Row T size (.slice none 0 0) 0 [] []:=⟨by simp, .inl ⟨rfl,rfl,rfl⟩⟩
section
variable {T size n:Nat} {v:Value} {xs:List Value} {s:Seg} {P:Program} {ops:Array Oper} {Q:Exit->Act->World->Prop} {a:Act} {w0 w w':World} {D:Sto} {ss:List Seg} {rest:List Oper} {o:Oper} {N:Nat} {env:Env} {K:Act->World->Prop}
theorem Row.own (h:Row T size v n xs s) (hw: ∀p∈s,w.heap[p.1]? =some p.2):w.ownsRow 0 T size v n xs:=by
  refine ⟨h.len, ?_⟩;rcases h.at_ with ⟨h1,h2,h3⟩|⟨g,cap,cur,h1,h2,h3,h4,h5,h6⟩
  ·exact .inl ⟨h1,h2⟩
  ·subst h2;exact .inr ⟨g,cap,cur,h1,Nat.zero_le _,hw (g,_) (by simp),h3,h4,h5,h6⟩
theorem Row.slice (h:Row T size v n xs s): ∃A c,v= .slice A n c/\n<=c:=by
  rcases h.at_ with ⟨h1,h2,h3⟩|⟨g,cap,cur,h1,h2,h3,h4,h5,h6⟩
  ·subst h2;exact ⟨none,0,h1,Nat.le_refl _⟩
  ·exact ⟨_,_,h1,h3⟩
theorem of_own {v':Value} {m:Nat} {ys:List Value} (h:w'.ownsRow 0 T size v' m ys): ∃s',Row T size v' m ys s'/\(∀p∈s',w'.heap[p.1]? =some p.2/\v'.ownBlock=some p.1)/\(s'.map (·.1)).Nodup:=by
  rcases h.2 with ⟨rfl,rfl⟩|⟨g,cap,cur,rfl,hb,hg,h3,h4,h5,h6⟩
  ·exact ⟨[],⟨h.1, .inl ⟨rfl,rfl,rfl⟩⟩,by simp,by simp⟩
  ·exact ⟨[(g, .cells cur T (0,0))],⟨h.1, .inr ⟨g,cap,cur,rfl,rfl,h3,h4,h5,h6⟩⟩,by simp [hg,Value.ownBlock],by simp⟩
theorem Row.block (h:Row T size v n xs s): ∀k,v.ownBlock=some k->k∈s.map (·.1):=by
  intro k hk;rcases h.at_ with ⟨rfl,h2,h3⟩|⟨g,cap,cur,rfl,h2,_⟩
  ·simp [Value.ownBlock] at hk
  ·subst h2;simp [Value.ownBlock] at hk;simp [hk]
theorem o_append {x y:Operand} {t e bytes m c d:Nat} {z:Value} {ad:Addr} {news:List Value} (i:Nat) (Z:EnvOk N env a) (I:Inv w0 D ss w) (hd:o.dst=some d) (hN:Nat.blt d N=true)
    (ho:o.op= .call {callee:= .builtin .append,args:= #[x,y],argTypes:= #[t,t]}) (hx:ev env x=some v) (hy:ev env y=some (.slice (some ad) m c)) (ht:P.underlying t=some (.slice e))
    (hinfo:(P.info? e).map (fun i=>(i.zero,i.size,i.bytes))=some (some z,size,bytes)) (hz:z.cells.size=size) (hsz:Nat.blt 0 size=true) (hi:ss[i]? =some s) (hR:Row e size v n xs s)
    (hl:news.length=m*size) (hnews: ∀j u,news[j]? =some u->w.cell? (ad.add j)=some u) (h1: ∀u∈news,u.oneCell'=true)
    (hb:(n+m)*bytes<=140737488355328) (hm:n+m<=9223372036854775807)
    (k: ∀v' s' w',Row e size v' (n+m) (xs++news) s'->Inv w0 D (ss.set i s') w'-> ∀a',EnvOk N ((d,v')::env) a'->K a' w'):o.wp P a w K Q:=by
  obtain ⟨inf,hi0,hzz⟩:=Option.map_eq_some_iff.1 hinfo;simp only [Prod.mk.injEq] at hzz;obtain ⟨v',w',hr,hown,hgrow,hnil,hat⟩:=run_append_own_at (P:=P) w 0 t o.type e inf z size bytes ht hi0 hzz.1 hzz.2.1 hzz.2.2 hz (Nat.le_of_ble_eq_true hsz) v n xs (hR.own (I.segs i hi)) ad m c news hl hnews h1 (by simpa [maxLen] using hm) hb (Nat.zero_le _);obtain ⟨s',hR',hs',hn'⟩:=of_own hown;have hrun:(execOp a.eval o).run P w= .ok (.value v') w':=by simp only [execOp,ho,resolve,invoke,builtin,Sem.run_bind,Sem.run_pure,Result.andThen_ok,List.map_toArray,List.map_cons,List.map_nil,Z.eval hx,Z.eval hy,hr]
  have hI':Inv w0 D (ss.set i s') w':=by
   refine I.replace_at i hi hgrow.os hgrow.tape hgrow.output hgrow.size (fun b hb hm=> ?_) (fun p hp=>(hs' p hp).1) hn' (fun p hp=> ?_)
   ·exact hgrow.block b hb (fun e=>hm (hR.block b e.symm))
   ·have h2:=(hs' p hp).2;rcases hat with hat|hat
    ·rw [hat] at h2;exact .inl (hR.block _ h2)
    ·rw [hat] at h2;injection h2 with h2
     exact .inr (by omega)
  exact o_val hrun (by rw [hd];exact k v' s' w' hR' hI' _ (Z.put hN _))
theorem o_appendNil {x y:Operand} {t e d:Nat} (Z:EnvOk N env a) (I:Inv w0 D ss w) (hd:o.dst=some d) (hN:Nat.blt d N=true)
    (ho:o.op= .call {callee:= .builtin .append,args:= #[x,y],argTypes:= #[t,t]}) (hx:ev env x=some v) (hy:ev env y=some (.slice none 0 0)) (ht:P.underlying t=some (.slice e)) (hsome:(P.info? e).map (·.size)=some size)
    (hR:Row e size v n xs s) (hs: ∀p∈s,w.heap[p.1]? =some p.2)
    (k: ∀a',EnvOk N ((d,v)::env) a'->K a' w):o.wp P a w K Q:=by
  obtain ⟨inf,hi0,rfl⟩:=Option.map_eq_some_iff.1 hsome;have hrun:=run_append_owned_none (P:=P) (w:=w) 0 t o.type e inf inf.size ht hi0 v n xs (hR.own hs);have hr:(execOp a.eval o).run P w= .ok (.value v) w:=by simp [execOp,ho,resolve,invoke,builtin,Z.eval hx,Z.eval hy,hrun]
  exact o_val hr (by rw [hd];exact k _ (Z.put hN _))
def fillS (place:Nat->Option (Nat×Nat)) (cells:Array Value):List (Nat×Value)->Option (Array Value)
  | []=>some cells
  |(i,v)::r=>match place i with
    |none=>none
    |some (off,size)=>if Nat.beq v.cells.size size && Nat.ble (off+size) cells.size then fillS place (splice cells off v.cells.toList) r else none
theorem fold_splice: ∀(vs:List Value) (cs:Array Value) (off j:Nat),(vs.zipIdx j).foldl (fun cs (x:Value×Nat)=>cs.setIfInBounds (off+x.2) x.1) cs=splice cs (off+j) vs
  | [],cs,off,j=>rfl
  |v::r,cs,off,j=>by
    simp only [List.zipIdx_cons,List.foldl_cons,splice];rw [fold_splice r _ off (j+1),Nat.add_assoc]
theorem fill_of_S {place:Nat->Option (Nat×Nat)}: ∀{parts:List (Nat×Value)} {cells cs:Array Value},fillS place cells parts=some cs->Instr.fill place cells parts=some cs
  | [],cells,cs,h=>h
  |(i,v)::r,cells,cs,h=>by
    simp only [fillS] at h;simp only [Instr.fill];cases hp:place i with
    |none=>rw [hp] at h;cases h
    |some q=>
      obtain ⟨off,size⟩:=q;rw [hp] at h;simp only at h ⊢;split at h
      ·rename_i hc;simp only [Bool.and_eq_true] at hc;have h1:=Nat.eq_of_beq_eq_true hc.1;have h2:=Nat.le_of_ble_eq_true hc.2;rw [if_neg (by rw [h1];simp;omega)];have h3:(v.cells.zipIdx.foldl (fun cs (x:Value×Nat)=>cs.setIfInBounds (off+x.2) x.1) cells)=splice cells off v.cells.toList:=by
         rw [<-Array.foldl_toList,Array.toList_zipIdx,fold_splice];rfl
       have:=fill_of_S h;rw [<-h3] at this;exact this
      ·cases h
theorem p_buildS {P:Program} {env:Env} {t:TypeId} {parts:Array (Nat×Operand)} {vs:List (Nat×Value)} {pl:Array (Nat×Nat)} {z cells:Array Value} (hv:parts.toList.map (fun p=>(p.1,ev env p.2))=vs.map (fun p=>(p.1,some p.2)))
    (hb: ∀vs,P.built t vs=Instr.fill (pl[·]?) z vs) (hf:fillS (pl[·]?) z vs=some cells):PureOp P env (.build t parts) (.agg cells):=
  p_build hv (by rw [hb];exact fill_of_S hf)
theorem range_map (n:Nat) (f:Nat->Value):(Array.range n).map f=((List.range n).map f).toArray:=by apply Array.ext_getElem?;intro i;simp [Array.getElem?_range,List.getElem?_range'];by_cases h:i<n<;>simp [h,Array.getElem?_range,List.getElem?_range]
theorem o_lit {t e len size d:Nat} {parts:Array (Nat×Operand)} {vs:List (Nat×Value)} {z:Value} {cells:Array Value} {ss':Nat->List Seg} (i:Nat) (Z:EnvOk N env a) (I:Inv w0 D ss w) (hd:o.dst=some d) (hN:Nat.blt d N=true)
    (ho:o.op= .buildSlice t len parts) (hv:parts.toList.map (fun p=>(p.1,ev env p.2))=vs.map (fun p=>(p.1,some p.2))) (ht:P.underlying t=some (.slice e))
    (hinfo:(P.info? e).map (fun i=>(i.zero,i.size))=some (some z,size)) (hsm:Nat.ble (len*size) 1000=true)
    (hf':fillS (fun i=>some (i*size,size)) ((List.range (len*size)).map (fun i=>z.cells[i % z.cells.size]!)).toArray vs=some cells)
    (hss: ∀b,insAt i [(b, .cells cells e (0,0))] ss=ss' b)
    (k: ∀a' b w',EnvOk N ((d, .slice (some ⟨b,0,none⟩) len len)::env) a'->Inv w0 D (ss' b) w'->K a' w'):o.wp P a w K Q:=by
  have key: ∀(l:List (Nat×Operand)) (vs:List (Nat×Value)),l.map (fun p=>(p.1,ev env p.2))=vs.map (fun p=>(p.1,some p.2))->l.map (fun p=>(p.1,a.eval p.2))=vs:=by
    intro l;induction l with
    |nil=>intro vs h;cases vs with
      |nil=>rfl
      |cons _ _=>simp at h
    |cons p l ih=>intro vs h;cases vs with
      |nil=>simp at h
      |cons q vs=>
        simp only [List.map_cons,List.cons.injEq,Prod.mk.injEq] at h;simp only [List.map_cons,ih vs h.2,Z.eval h.1.2,h.1.1]
  have hp:(parts.map fun (i,x)=>(i,a.eval x)).toList=vs:=by rw [Array.toList_map];exact key _ _ hv
  have hf:=fill_of_S hf';obtain ⟨inf,hi0,hzz⟩:=Option.map_eq_some_iff.1 hinfo;simp only [Prod.mk.injEq] at hzz;obtain ⟨hz,rfl⟩:=hzz;have hle:=Nat.le_of_ble_eq_true hsm;have hbig: ¬len*inf.size>2^24:=by omega
  have hrun:(Instr.buildSlice t len (parts.map fun (i,x)=>(i,a.eval x))).run P w= .ok (.slice (some ⟨w.heap.size,0,none⟩) len len) {w with heap:=w.heap.push (.cells cells e (0,0))}:=by
    by_cases h0:len*inf.size=0
    ·have hf0:Instr.fill (fun i=>some (i*inf.size,inf.size)) #[] vs=some cells:=by
       rw [h0] at hf;simpa using hf
     unfold Instr.buildSlice;simp only [hp];have he:(Array.range 0).map (fun _=>(default:Value))= #[]:=by simp
     simp [run_underlying ht,sizeOf,typeInfo,hi0,h0,zeroValue];rw [he,hf0];simp [run_newRow]
    ·unfold Instr.buildSlice;simp only [hp];simp [run_underlying ht,sizeOf,typeInfo,hi0,hbig,h0,zeroValue,hz,range_map,hf,run_newRow]
  have hr:(execOp a.eval o).run P w= .ok (.value (.slice (some ⟨w.heap.size,0,none⟩) len len)) {w with heap:=w.heap.push (.cells cells e (0,0))}:=by simp [execOp,ho,hrun]
  exact o_val hr (by rw [hd];exact k _ w.heap.size _ (Z.put hN _) (hss _▸I.new_at i _))
end
def RB (D:Sto) (v:Value) (bs:List Nat):Prop:=
  ∃A c,v= .slice A bs.length c/\bs.length<=c/\(∀x∈bs,x<256)/\(A=none->c=0)/\
    (bs≠ []-> ∃b off cs T fr,A=some ⟨b,off,none⟩/\D b=some (.cells cs T fr)/\ ∀i x,bs[i]? =some x->cs[off+i]? =some (.int .u8 (x:Nat)))
theorem RB.mono {D D':Sto} {v:Value} {bs:List Nat} (h:RB D v bs) (hD:Le D D'):RB D' v bs:=by obtain ⟨A,c,h1,h2,h3,h4,h5⟩:=h;refine ⟨A,c,h1,h2,h3,h4,fun hn=> ?_⟩;obtain ⟨b,off,cs,T,fr,h6,h7,h8⟩:=h5 hn;exact ⟨b,off,cs,T,fr,h6,hD _ _ h7,h8⟩
theorem RB.nil (D:Sto):RB D (.slice none 0 0) []:=⟨none,0,rfl,Nat.le_refl _,by simp,fun _=>rfl,fun h=>absurd rfl h⟩
theorem RB.slice {D:Sto} {v:Value} {bs:List Nat} (h:RB D v bs): ∃A c,v= .slice A bs.length c/\bs.length<=c:=by obtain ⟨A,c,h1,h2,_⟩:=h;exact ⟨A,c,h1,h2⟩
theorem RB.lt {D:Sto} {v:Value} {bs:List Nat} (h:RB D v bs): ∀x∈bs,x<256:=by obtain ⟨A,c,h1,h2,h3,_⟩:=h;exact h3
theorem RB.at_ {D:Sto} {A:Option Addr} {n c:Nat} {bs:List Nat} (h:RB D (.slice A n c) bs) (hn:bs≠ []) :
    ∃b off cs T fr,A=some ⟨b,off,none⟩/\D b=some (.cells cs T fr)/\ ∀i x,bs[i]? =some x->cs[off+i]? =some (.int .u8 (x:Nat)):=by
  obtain ⟨A',c',h1,h2,h3,h4,h5⟩:=h;injection h1 with h1 _ _
  subst h1;exact h5 hn
theorem RB.len {D:Sto} {A:Option Addr} {n c:Nat} {bs:List Nat} (h:RB D (.slice A n c) bs):n=bs.length/\n<=c:=by
  obtain ⟨A',c',h1,h2,_⟩:=h;injection h1 with _ h3 h4
  subst h3;subst h4;exact ⟨rfl,h2⟩
def bytesV (bs:List Nat):List Value:=bs.map fun x=> .int .u8 (x:Nat)
theorem bytesV_get {bs:List Nat} {i x:Nat} (h:bs[i]? =some x):(bytesV bs)[i]? =some (.int .u8 (x:Nat)):=by simp [bytesV,h]
theorem Row.shut_bytes {T n:Nat} {v:Value} {bs:List Nat} {s:Seg} {D:Sto} (h:Row T 1 v n (bytesV bs) s) (hb: ∀x∈bs,x<256):RB (Sto.put D s) v bs:=by
  have hl:bs.length=n:=by have:=h.len;simp [bytesV] at this;exact this
  rcases h.at_ with ⟨rfl,h2,h3⟩|⟨g,cap,cur,rfl,h2,h3,h4,h5,h6⟩
  ·have:bs= []:=List.eq_nil_of_length_eq_zero (by omega);subst this;exact RB.nil _
  ·subst h2;refine ⟨some ⟨g,0,none⟩,cap,by rw [hl],by omega,hb,by simp,fun _=>⟨g,0,cur,T,(0,0),rfl,Sto.put_one _ _ _,fun i x hi=> ?_⟩⟩;have h7:(cur.toList.take (n*1))[i]? =some (.int .u8 (x:Nat)):=by rw [h6];exact bytesV_get hi
   have hlt:i<bs.length:=(List.getElem?_eq_some_iff.1 hi).1;rw [List.getElem?_take_of_lt (by omega)] at h7;simpa using h7
section
variable {P:Program} {ops:Array Oper} {Q:Exit->Act->World->Prop} {S:World->Prop} {br:List Nat} {a:Act} {w w' w0:World} {D:Sto} {ss:List Seg} {o:Oper} {N:Nat} {env:Env} {K:Act->World->Prop}
def live (br:List Nat) (listed:Array Bool):Bool:=br.all fun j=> !listed.getD j true
def Ord (P:Program) (ops:Array Oper) (Q:Exit->Act->World->Prop) (br:List Nat) (S:World->Prop):Nat->Array Bool->Act->World->Prop
  |0,listed,a,w=>Region.ready .any ops listed= []/\Q .normal a w
  |n+1,listed,a,w=>(Region.ready .any ops listed= []->Q .normal a w)/\
    ∀i∈Region.ready .any ops listed,wpOp P ops Q i (fun a' w'=>(live br (listed.setIfInBounds i true)=true->S w')/\Ord P ops Q br S n (listed.setIfInBounds i true) a' w') a w
theorem Ord.any: ∀(n:Nat) (listed:Array Bool) (a:Act) (w:World),Ord P ops Q br S n listed a w->wpAny P .any ops Q n listed a w
  |0,_,_,_,h=>h
  |n+1,_,_,_,h=>⟨h.1,fun i hi=>wpOp_mono (fun a' w' h'=>Ord.any n _ a' w' h'.2) (h.2 i hi)⟩
def reach (ops:Array Oper) (i:Nat):Nat->Nat->Bool
  |0,_=>false
  |n+1,j=>match ops[j]? with
    |some o=>o.after.any fun e=>Region.binds .any e && (e.on==i ||reach ops i n e.on)
    |none=>false
def waits (ops:Array Oper) (br:List Nat) (i:Nat):Bool:=br.all fun j=>match ops[j]? with
  |some _=>reach ops i ops.size j
  |none=>true
def closedB (ops:Array Oper) (listed:Array Bool):Bool:=(List.range ops.size).all fun k=>match ops[k]? with
  |some o=> !listed.getD k false ||o.after.all fun e=> !Region.binds .any e ||listed.getD e.on false
  |none=>true
def Closed (ops:Array Oper) (listed:Array Bool):Prop:= ∀k o,ops[k]? =some o->listed.getD k false=true-> ∀e∈o.after,Region.binds .any e=true->listed.getD e.on false=true
theorem closed_of {listed:Array Bool} (h:closedB ops listed=true):Closed ops listed:=fun k o hk hl e he hb=>by
  have hlt:k<ops.size:=(Array.getElem?_eq_some_iff.1 hk).1;have h1:=List.all_eq_true.1 h k (List.mem_range.2 hlt);simp only [hk,hl,Bool.not_true,Bool.false_or] at h1;have h2:=(Array.all_eq_true_iff_forall_mem.1 h1) e he;simpa [hb] using h2
theorem unlisted_lt {i:Nat} {listed:Array Bool} (h:listed.getD i true=false):i<listed.size:=by
  rcases Nat.lt_or_ge i listed.size with h'|h'
  ·exact h'
  ·simp [Array.getElem?_eq_none h'] at h
theorem wait_of {i j:Nat} {oj:Oper} {listed:Array Bool} (hi:listed.getD i true=false) (hoj:ops[j]? =some oj) (hj:j∈Region.ready .any ops listed): ∀e∈oj.after,Region.binds .any e=true->e.on≠i:=fun e he hb heq=>by
  obtain ⟨_,o',ho',hall⟩:=mem_ready.1 hj;rw [hoj] at ho';injection ho' with ho'
  subst ho';have h2:=hall e he hb;have hlt:=unlisted_lt hi;rw [heq] at h2;simp [hlt] at hi h2;rw [hi] at h2;cases h2
theorem ready_listed {j:Nat} {oj:Oper} {listed:Array Bool} (hoj:ops[j]? =some oj) (hj:j∈Region.ready .any ops listed): ∀e∈oj.after,Region.binds .any e=true->listed.getD e.on false=true:=fun e he hb=>by
  obtain ⟨_,o',ho',hall⟩:=mem_ready.1 hj;rw [hoj] at ho';injection ho' with ho'
  subst ho';exact hall e he hb
theorem reach_listed {i:Nat} {listed:Array Bool} (hc:Closed ops listed) (hi:listed.getD i true=false): ∀(n k:Nat),reach ops i n k=true->listed.getD k false=true->False
  |0,k,h,_=>by cases h
  |n+1,k,h,hl=>by
    simp only [reach] at h;split at h
    ·rename_i o ho;obtain ⟨e,he,hb⟩:=Array.any_eq_true'.1 h;simp only [Bool.and_eq_true,Bool.or_eq_true,beq_iff_eq] at hb;have h1:=hc k o ho hl e he hb.1;rcases hb.2 with h2|h2
     ·have hlt:=unlisted_lt hi;rw [h2] at h1;simp [hlt] at hi h1;rw [hi] at h1;cases h1
     ·exact reach_listed hc hi n _ h2 h1
    ·cases h
theorem Closed.step {j:Nat} {listed:Array Bool} (hc:Closed ops listed) (hj:j∈Region.ready .any ops listed):Closed ops (listed.setIfInBounds j true):=fun k o hk hl e he hb=>by
  have h1:listed.getD e.on false=true:=by
    by_cases hkj:j=k
    ·subst hkj;exact ready_listed hk hj e he hb
    ·rw [getD_set_ne false hkj] at hl;exact hc k o hk hl e he hb
  by_cases hje:j=e.on
  ·subst hje;rw [Array.getD_eq_getD_getElem?,Array.getElem?_setIfInBounds];have hlt:e.on<listed.size:=by
     rcases Nat.lt_or_ge e.on listed.size with h'|h'
     ·exact h'
     ·simp [Array.getElem?_eq_none h'] at h1
   simp [hlt]
  ·rw [getD_set_ne false hje];exact h1
theorem Ord.first {i:Nat} {oi:Oper} {v:Value} (hi:ops[i]? =some oi) (hsel: ∀(j:Nat) (o:Oper) cs b,ops[j]? =some o->o.op≠ .select cs b)
    (hQ: ∀c a w,Q (.panic c) (a.put oi.dst v) w->Q (.panic c) a w) (hwait:waits ops br i=true) (hbi:br.contains i=false): ∀(n:Nat) (listed:Array Bool) (a:Act) (w:World),
      (∀j oj,ops[j]? =some oj->j≠i->listed.getD j true=false->(∀e∈oj.after,Region.binds .any e=true->e.on≠i)->oi.apart ops oj=true)->
      Closed ops listed->i∈Region.ready .any ops listed->live br listed=true->YieldsIf P ops S oi v a->S w->
      Ord P ops Q br S n (listed.setIfInBounds i true) (a.put oi.dst v) w->Ord P ops Q br S (n+1) listed a w:=by
  have keep: ∀(j:Nat) (listed:Array Bool),j ∉ br->live br listed=true->live br (listed.setIfInBounds j true)=true:=fun j listed hj hl=>by
    simp only [live,List.all_eq_true] at hl ⊢;intro k hk;rw [getD_set_ne true (fun e=>hj (by rw [e];exact hk))];exact hl k hk
  have hib:i ∉ br:=fun h=>by rw [List.contains_iff_mem.2 h] at hbi;cases hbi
  intro n;induction n with
  |zero=>
    intro listed a w _ hcl hr hl hy hS H;refine ⟨fun h=>absurd hr (by simp [h]),fun j hj=> ?_⟩;by_cases hji:j=i
    ·subst hji;exact hy.wpOp hi hS ⟨fun _=>hS,H⟩
    ·exact absurd (ready_mono hj hji) (by simp [H.1])
  |succ n ih=>
    intro listed a w hfree hcl hr hl hy hS H;refine ⟨fun h=>absurd hr (by simp [h]),fun j hj=> ?_⟩;by_cases hji:j=i
    ·subst hji;exact hy.wpOp hi hS ⟨fun _=>hS,H⟩
    have h1:=H.2 j (ready_mono hj hji);obtain ⟨hjun,oj,hoj,hall⟩:=mem_ready.1 hj;have hun:=(mem_ready.1 hr).1;have hnot:=wait_of hun hoj hj;have hjb:j ∉ br:=fun hm=>by
      have:=(List.all_eq_true.1 hwait) j hm;simp only [hoj] at this;cases hs:ops.size with
      |zero=>rw [hs] at this;cases this
      |succ q=>
        rw [hs] at this;simp only [reach,hoj] at this;obtain ⟨e,he,hb⟩:=Array.any_eq_true'.1 this;simp only [Bool.and_eq_true,Bool.or_eq_true,beq_iff_eq] at hb;rcases hb.2 with h2|h2
        ·exact hnot e he hb.1 h2
        ·exact reach_listed hcl hun q _ h2 (ready_listed hoj hj e he hb.1)
    have h2:=wpOp_putIf hoj (hfree j oj hoj hji hjun hnot) (fun cs b=>hsel i oi cs b hi) (fun cs b=>hsel j oj cs b hoj) hQ hy h1;refine wpOp_mono (fun a' w' h3=> ?_) h2;have hri:i∈Region.ready .any ops (listed.setIfInBounds j true):=ready_mono hr (Ne.symm hji);have hS':S w':=h3.2.1 (keep j _ hjb (keep i _ hib hl));refine ⟨fun _=>hS',ih _ a' w' (fun k ok hk hki hun hno=> ?_) (hcl.step hj) hri (keep j _ hjb hl) h3.1 hS' ?_⟩
    ·refine hfree k ok hk hki ?_ hno;by_cases hjk:j=k
     ·subst hjk;exact hjun
     ·rw [getD_set_ne true hjk] at hun;exact hun
    ·rw [Array.setIfInBounds_comm _ _ hji];exact h3.2.2
theorem Ord.firstP {i:Nat} {oi:Oper} {v:Value} (hi:ops[i]? =some oi) (hsel: ∀(j:Nat) (o:Oper) cs b,ops[j]? =some o->o.op≠ .select cs b)
    (hQ: ∀c a w,Q (.panic c) (a.put oi.dst v) w->Q (.panic c) a w) (hbi:br.contains i=false): ∀(n:Nat) (listed:Array Bool) (a:Act) (w:World),
      (∀j oj,ops[j]? =some oj->j≠i->listed.getD j true=false->(∀e∈oj.after,Region.binds .any e=true->e.on≠i)->oi.apart ops oj=true)->
      i∈Region.ready .any ops listed->YieldsIf P ops (fun _=>True) oi v a->(live br listed=true->S w)->
      Ord P ops Q br S n (listed.setIfInBounds i true) (a.put oi.dst v) w->Ord P ops Q br S (n+1) listed a w:=by
  have hib:i ∉ br:=fun h=>by rw [List.contains_iff_mem.2 h] at hbi;cases hbi
  have back: ∀(listed:Array Bool),live br (listed.setIfInBounds i true)=true->live br listed=true:=fun listed hl=>by
    simp only [live,List.all_eq_true] at hl ⊢;intro k hk;have:=hl k hk;rwa [getD_set_ne true (fun e=>hib (by rw [e];exact hk))] at this
  intro n;induction n with
  |zero=>
    intro listed a w _ hr hy hS H;refine ⟨fun h=>absurd hr (by simp [h]),fun j hj=> ?_⟩;by_cases hji:j=i
    ·subst hji;exact hy.wpOp hi trivial ⟨fun h=>hS (back _ h),H⟩
    ·exact absurd (ready_mono hj hji) (by simp [H.1])
  |succ n ih=>
    intro listed a w hfree hr hy hS H;refine ⟨fun h=>absurd hr (by simp [h]),fun j hj=> ?_⟩;by_cases hji:j=i
    ·subst hji;exact hy.wpOp hi trivial ⟨fun h=>hS (back _ h),H⟩
    have h1:=H.2 j (ready_mono hj hji);obtain ⟨hjun,oj,hoj,hall⟩:=mem_ready.1 hj;have hun:=(mem_ready.1 hr).1;have hnot:=wait_of hun hoj hj;have h2:=wpOp_putIf hoj (hfree j oj hoj hji hjun hnot) (fun cs b=>hsel i oi cs b hi) (fun cs b=>hsel j oj cs b hoj) hQ hy h1;refine wpOp_mono (fun a' w' h3=> ?_) h2;have hri:i∈Region.ready .any ops (listed.setIfInBounds j true):=ready_mono hr (Ne.symm hji);have hS':live br (listed.setIfInBounds j true)=true->S w':=fun hl=>h3.2.1 (by
      simp only [live,List.all_eq_true] at hl ⊢;intro k hk;rw [Array.setIfInBounds_comm _ _ (Ne.symm hji),getD_set_ne true (fun e=>hib (by rw [e];exact hk))];exact hl k hk)
    refine ⟨hS',ih _ a' w' (fun k ok hk hki hun hno=> ?_) hri h3.1 hS' ?_⟩
    ·refine hfree k ok hk hki ?_ hno;by_cases hjk:j=k
     ·subst hjk;exact hjun
     ·rw [getD_set_ne true hjk] at hun;exact hun
    ·rw [Array.setIfInBounds_comm _ _ hji];exact h3.2.2
def dropS (ds:List Nat) (ss:List Seg):List Seg:=ds.foldl (fun s i=>s.eraseIdx i) ss
theorem Inv.dropS {ss:List Seg} (h:Inv w0 D ss w) (ds:List Nat):Inv w0 D (dropS ds ss) w:=by
  unfold B.dropS;induction ds generalizing ss with
  |nil=>exact h
  |cons i ds ih=>exact ih (h.erase i)
section
variable {n:Nat} {listed listed' listed'':Array Bool}
theorem d_start {id m:Nat} (br ds:List Nat) (hm:P.follows .mixedOrders=true) (I:Inv w0 D ss w) (hsz:ops.size=m) (hl:Array.replicate m false=listed)
    (h: ∀w',Inv w0 D ss w'->Ord P ops Q br (fun w=>Inv w0 D (dropS ds ss) w) m listed a w'):(Code.region id ops true).wp P Q a w:=by
  subst hsz;subst hl;exact wp_region_any hm ((h _ (I.drawn _)).any _ _ _ _)
theorem d_load {d:Nat} {v:Value} (i:Nat) (Z:EnvOk N env a) (hi:ops[i]? =some o) (hs:Region.noSelect ops=true) (hf:Region.free .any ops listed i=true) (hr:(Region.ready .any ops listed).contains i=true)
    (hwait:waits ops br i=true) (hcl:closedB ops listed=true) (hbi:br.contains i=false) (hlive:live br listed=true)
    (hQ: ∀c a w,Q (.panic c) (a.put o.dst v) w->Q (.panic c) a w) (hw:wantedE ops env o=some true) (hd:o.dst=some d) (hN:Nat.blt d N=true) (hp: ∀w,S w->RunOp P env w o.op v) (hS:S w) (hl:listed.setIfInBounds i true=listed')
    (k: ∀a',EnvOk N ((d,v)::env) a'->Ord P ops Q br S n listed' a' w):Ord P ops Q br S (n+1) listed a w:=by
  subst hl;refine Ord.first hi (Region.noSelect_spec hs) hQ hwait hbi n listed a w (Region.free_spec hi hf) (closed_of hcl) (by simpa using hr) hlive (.inl ⟨wanted_of Z hw,fun w hS=>hp w hS _ a o Z rfl⟩) hS ?_;rw [hd];exact k _ (Z.put hN v)
theorem d_pure {d:Nat} {v:Value} (i:Nat) (Z:EnvOk N env a) (hi:ops[i]? =some o) (hs:Region.noSelect ops=true) (hf:Region.free .any ops listed i=true) (hr:(Region.ready .any ops listed).contains i=true) (hbi:br.contains i=false)
    (hQ: ∀c a w,Q (.panic c) (a.put o.dst v) w->Q (.panic c) a w) (hw:wantedE ops env o=some true) (hd:o.dst=some d) (hN:Nat.blt d N=true) (hp:PureOp P env o.op v) (hS:live br listed=true->S w) (hl:listed.setIfInBounds i true=listed')
    (k: ∀a',EnvOk N ((d,v)::env) a'->Ord P ops Q br S n listed' a' w):Ord P ops Q br S (n+1) listed a w:=by
  subst hl;refine Ord.firstP hi (Region.noSelect_spec hs) hQ hbi n listed a w (Region.free_spec hi hf) (by simpa using hr) (.inl ⟨wanted_of Z hw,fun w _=>hp _ a w o Z rfl⟩) hS ?_;rw [hd];exact k _ (Z.put hN v)
theorem d_skip {d:Nat} (i:Nat) (Z:EnvOk N env a) (hi:ops[i]? =some o) (hs:Region.noSelect ops=true) (hf:Region.free .any ops listed i=true) (hr:(Region.ready .any ops listed).contains i=true) (hbi:br.contains i=false)
    (hQ: ∀c a w,Q (.panic c) (a.put o.dst undef) w->Q (.panic c) a w) (hw:wantedE ops env o=some false) (hd:o.dst=some d) (hN:Nat.blt d N=true) (hS:live br listed=true->S w) (hl:listed.setIfInBounds i true=listed')
    (k: ∀a',EnvOk N ((d,undef)::env) a'->Ord P ops Q br S n listed' a' w):Ord P ops Q br S (n+1) listed a w:=by
  subst hl;refine Ord.firstP hi (Region.noSelect_spec hs) hQ hbi n listed a w (Region.free_spec hi hf) (by simpa using hr) (.inr ⟨wanted_of Z hw,rfl⟩) hS ?_;rw [hd];exact k _ (Z.put hN _)
theorem d_cmp {op:BinOp} {t t':TypeId} {x y:Operand} {kx:IntKind} {m m':Int} {d:Nat} (i:Nat) (Z:EnvOk N env a) (hi:ops[i]? =some o) (hs:Region.noSelect ops=true) (hf:Region.free .any ops listed i=true) (hr:(Region.ready .any ops listed).contains i=true) (hbi:br.contains i=false)
    (hQ: ∀c a w v,Q (.panic c) (a.put o.dst v) w->Q (.panic c) a w) (hw:wantedE ops env o=some true) (hd:o.dst=some d) (hN:Nat.blt d N=true) (ho:o.op= .binOp op t x y t')
    (hx:ev env x=some (.int kx m)) (hy:ev env y=some (.int kx m')) (hop:(cmpB op 0 0).isSome=true) (hS:live br listed=true->S w) (hl:listed.setIfInBounds i true=listed')
    (kt:cmpB op m m'=some true-> ∀a',EnvOk N ((d, .bool true)::env) a'->Ord P ops Q br S n listed' a' w) (kf:cmpB op m m'=some false-> ∀a',EnvOk N ((d, .bool false)::env) a'->Ord P ops Q br S n listed' a' w):Ord P ops Q br S (n+1) listed a w:=by
  cases hb:cmpB op m m' with
  |none=>cases op<;>simp [cmpB] at hb hop
  |some b=>
    have hp:PureOp P env o.op (.bool b):=by rw [ho];exact p_cmp hx hy hb
    cases b with
    |true=>exact d_pure i Z hi hs hf hr hbi (fun c a w=>hQ c a w _) hw hd hN hp hS hl (kt hb)
    |false=>exact d_pure i Z hi hs hf hr hbi (fun c a w=>hQ c a w _) hw hd hN hp hS hl (kf hb)
theorem d_one (i:Nat) (Z:EnvOk N env a) (hi:ops[i]? =some o) (hr:Region.ready .any ops listed= [i]) (hw:wantedE ops env o=some true) (hl:listed.setIfInBounds i true=listed')
    (h:o.wp P a w (fun a' w'=>(live br listed'=true->S w')/\Ord P ops Q br S n listed' a' w') Q):Ord P ops Q br S (n+1) listed a w:=by
  subst hl;refine ⟨fun h0=>(by rw [h0] at hr;cases hr),fun j hj=> ?_⟩;obtain rfl:j=i:=by rw [hr] at hj;simpa using hj
  exact wpOp_go Z hi hw h
theorem d_two {o':Oper} (i j:Nat) (Z:EnvOk N env a) (hi:ops[i]? =some o) (hj:ops[j]? =some o') (hr:Region.ready .any ops listed= [i,j]) (hw:wantedE ops env o=some true) (hw':wantedE ops env o'=some true)
    (hl:listed.setIfInBounds i true=listed') (hl':listed.setIfInBounds j true=listed'')
    (h:o.wp P a w (fun a' w'=>(live br listed'=true->S w')/\Ord P ops Q br S n listed' a' w') Q) (h':o'.wp P a w (fun a' w'=>(live br listed''=true->S w')/\Ord P ops Q br S n listed'' a' w') Q):Ord P ops Q br S (n+1) listed a w:=by
  subst hl;subst hl';refine ⟨fun h0=>(by rw [h0] at hr;cases hr),fun q hq=> ?_⟩;rw [hr] at hq;simp only [List.mem_cons,List.not_mem_nil,or_false] at hq;rcases hq with rfl|rfl
  ·exact wpOp_go Z hi hw h
  ·exact wpOp_go Z hj hw' h'
theorem d_done (hr:Region.ready .any ops listed= []) (h:Q .normal a w):Ord P ops Q br S n listed a w:=by
  cases n with
  |zero=>exact ⟨hr,h⟩
  |succ n=>exact ⟨fun _=>h,by rw [hr];simp⟩
end
end
theorem lss_t {m n:Int} (h:cmpB .lss m n=some true):m<n:=by simpa [cmpB] using h
theorem lss_f {m n:Int} (h:cmpB .lss m n=some false):n<=m:=by simpa [cmpB] using h
theorem leq_t {m n:Int} (h:cmpB .leq m n=some true):m<=n:=by simpa [cmpB] using h
theorem leq_f {m n:Int} (h:cmpB .leq m n=some false):n<m:=by simpa [cmpB] using h
theorem gtr_t {m n:Int} (h:cmpB .gtr m n=some true):n<m:=by simpa [cmpB] using h
theorem gtr_f {m n:Int} (h:cmpB .gtr m n=some false):m<=n:=by simpa [cmpB] using h
theorem geq_t {m n:Int} (h:cmpB .geq m n=some true):n<=m:=by simpa [cmpB] using h
theorem geq_f {m n:Int} (h:cmpB .geq m n=some false):m<n:=by simpa [cmpB] using h
theorem eql_t {m n:Int} (h:cmpB .eql m n=some true):m=n:=by simpa [cmpB] using h
theorem eql_f {m n:Int} (h:cmpB .eql m n=some false):m≠n:=by simpa [cmpB] using h
theorem neq_t {m n:Int} (h:cmpB .neq m n=some true):m≠n:=by simpa [cmpB] using h
theorem neq_f {m n:Int} (h:cmpB .neq m n=some false):m=n:=by simpa [cmpB] using h
theorem lss_y {m n:Int} (h:m<n):cmpB .lss m n=some true:=by simpa [cmpB] using h
theorem lss_n {m n:Int} (h:n<=m):cmpB .lss m n=some false:=by simpa [cmpB] using h
theorem leq_y {m n:Int} (h:m<=n):cmpB .leq m n=some true:=by simpa [cmpB] using h
theorem leq_n {m n:Int} (h:n<m):cmpB .leq m n=some false:=by simpa [cmpB] using h
theorem gtr_y {m n:Int} (h:n<m):cmpB .gtr m n=some true:=by simpa [cmpB] using h
theorem gtr_n {m n:Int} (h:m<=n):cmpB .gtr m n=some false:=by simpa [cmpB] using h
theorem geq_y {m n:Int} (h:n<=m):cmpB .geq m n=some true:=by simpa [cmpB] using h
theorem geq_n {m n:Int} (h:m<n):cmpB .geq m n=some false:=by simpa [cmpB] using h
theorem eql_y {m n:Int} (h:m=n):cmpB .eql m n=some true:=by simpa [cmpB] using h
theorem eql_n {m n:Int} (h:m≠n):cmpB .eql m n=some false:=by simpa [cmpB] using h
theorem neq_n {m n:Int} (h:m=n):cmpB .neq m n=some false:=by simpa [cmpB] using h
section
variable {P:Program} {ops:Array Oper} {Q:Exit->Act->World->Prop} {a:Act} {w w' w0:World} {D:Sto} {ss:List Seg} {o:Oper} {N:Nat} {env:Env} {K:Act->World->Prop}
theorem o_cmp {op:BinOp} {t t':TypeId} {x y:Operand} {k:IntKind} {m n:Int} {d:Nat} (Z:EnvOk N env a) (hd:o.dst=some d) (hN:Nat.blt d N=true) (ho:o.op= .binOp op t x y t')
    (hx:ev env x=some (.int k m)) (hy:ev env y=some (.int k n)) (hop:(cmpB op 0 0).isSome=true)
    (kt:cmpB op m n=some true-> ∀a',EnvOk N ((d, .bool true)::env) a'->K a' w) (kf:cmpB op m n=some false-> ∀a',EnvOk N ((d, .bool false)::env) a'->K a' w):o.wp P a w K Q:=by
  cases hb:cmpB op m n with
  |none=>cases op<;>simp [cmpB] at hb hop
  |some b=>
    have hp:RunOp P env w o.op (.bool b):=by rw [ho];exact (p_cmp hx hy hb).run
    cases b with
    |true=>exact o_pure Z hd hN hp (kt hb)
    |false=>exact o_pure Z hd hN hp (kf hb)
end
theorem add_z {m n z:Int} (h:m+n=z) (h0: -9223372036854775808<=z) (h1:z<=9223372036854775807):arithZ .add .i64 m n=some z:=by simp only [arithZ,h,IntWalk.i64_in z ⟨h0,h1⟩]
theorem sub_z {m n z:Int} (h:m - n=z) (h0: -9223372036854775808<=z) (h1:z<=9223372036854775807):arithZ .sub .i64 m n=some z:=by simp only [arithZ,h,IntWalk.i64_in z ⟨h0,h1⟩]
theorem mul_z {m n z:Int} (h:m*n=z) (h0: -9223372036854775808<=z) (h1:z<=9223372036854775807):arithZ .mul .i64 m n=some z:=by simp only [arithZ,h,IntWalk.i64_in z ⟨h0,h1⟩]
theorem rem_z {k:IntKind} {m n z:Int} (h:m.tmod n=z) (h0:n≠0):arithZ .rem k m n=some z:=by simp only [arithZ,h0,if_false,h]
theorem lit_news {w:World} {b:Nat} {cs:Array Value} {T:TypeId} {fr:Nat×Nat} (hc:w.heap[b]? =some (.cells cs T fr)): ∀j u,cs.toList[j]? =some u->w.cell? ((⟨b,0,none⟩:Addr).add j)=some u:=by intro j u hj;rw [addr_add,cell_of hc];simpa using hj
theorem Row.cast {T size n n':Nat} {v:Value} {xs ys:List Value} {s:Seg} (h:Row T size v n xs s) (hx:xs=ys) (hn:n=n'):Row T size v n' ys s:=by subst hx;subst hn;exact h
theorem Row.lit {T size n b:Nat} {cs:Array Value} (hs:cs.size=n*size) (hn:n<=9223372036854775807):Row T size (.slice (some ⟨b,0,none⟩) n n) n cs.toList [(b, .cells cs T (0,0))]:=
  ⟨by simp [hs], .inr ⟨b,n,cs,rfl,rfl,Nat.le_refl _,by simpa [maxLen] using hn,hs,by rw [<-hs,<-Array.length_toList,List.take_length]⟩⟩
theorem RB.cell {bs:List Nat} {o:Nat} {cs:Array Value} {i:Int} (h: ∀j x,bs[j]? =some x->cs[o+j]? =some (.int .u8 (x:Nat))) (h0:0<=i) (h1:i.toNat<bs.length):cs[o+i.toNat*1]? =some (.int .u8 (bs.getD i.toNat 0:Nat)):=by have:=h i.toNat _ (List.getElem?_eq_getElem h1);rw [Nat.mul_one,this];simp [List.getD_eq_getElem?_getD,List.getElem?_eq_getElem h1]
section
variable {P:Program} {ops:Array Oper} {Q:Exit->Act->World->Prop} {a:Act} {w:World} {rest:List Oper} {o:Oper} {N:Nat} {env:Env}
theorem wsr {id:Nat} {y:Code} (h:wpList P ops (Exit.then (y.wp P Q) Q) ops.toList a w):(Code.seq (.region id ops false) y).wp P Q a w:=wp_seq (wp_region_list h)
theorem wnt {next:Act->World->Prop} (h:next a w):wpList P ops (Exit.then next Q) [] a w:=wpList_nil h
theorem qs {d:Nat} {v:Value} (Z:EnvOk N env a) (hg:o.guard=none) (hd:o.dst=some d) (hN:Nat.blt d N=true) (hp:PureOp P env o.op v) (k: ∀a',EnvOk N ((d,v)::env) a'->wpList P ops Q rest a' w):wpList P ops Q (o::rest) a w:=l_step hg (o_pure Z hd hN hp.run k)
theorem ql {d:Nat} {v:Value} (Z:EnvOk N env a) (hg:o.guard=none) (hd:o.dst=some d) (hN:Nat.blt d N=true) (hp:RunOp P env w o.op v) (k: ∀a',EnvOk N ((d,v)::env) a'->wpList P ops Q rest a' w):wpList P ops Q (o::rest) a w:=l_step hg (o_pure Z hd hN hp k)
theorem qm {x:Operand} {d:Nat} {v:Value} (Z:EnvOk N env a) (hg:o.guard=none) (hd:o.dst=some d) (hN:Nat.blt d N=true) (ho:o.op= .move x) (hx:ev env x=some v) (k: ∀a',EnvOk N ((d,v)::env) a'->wpList P ops Q rest a' w):wpList P ops Q (o::rest) a w:=qs Z hg hd hN (by rw [ho];exact p_move hx) k
theorem qa {x:Operand} {d:Nat} {v:Value} (Z:EnvOk N env a) (hg:o.guard=none) (hd:o.dst=some d) (hN:Nat.blt d N=true) (ho:o.op= .assign x) (hx:ev env x=some v) (k: ∀a',EnvOk N ((d,v)::env) a'->wpList P ops Q rest a' w):wpList P ops Q (o::rest) a w:=qs Z hg hd hN (by rw [ho];exact p_assign hx) k
end
end Go.Proofs.YtikllmoofngjnaaGreatDoor.B
