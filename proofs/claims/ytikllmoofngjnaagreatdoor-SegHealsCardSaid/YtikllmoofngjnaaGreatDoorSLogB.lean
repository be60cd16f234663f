/- A program logic over the model: what is owned, what is written no more, and one lemma for each kind of step. -/
import Derived.Test.YtikllmoofngjnaaGreatDoorSLogA
import Derived.LaidEql
import Derived.Laws.MakeOwn
import Derived.Maps.RangeRun
import Derived.Lib.Overlaps
import Derived.Lib.AppendZerosOnto
import Derived.Laws.Externs
import GoSem.Extern.BytealgCompare
namespace Go.Proofs.YtikllmoofngjnaaGreatDoor.B
open Go
set_option linter.unusedVariables false
set_option linter.unusedSimpArgs false
section
variable {P:Program} {ops:Array Oper} {Q:Exit->Act->World->Prop} {a:Act} {w0 w w':World} {D:Sto} {ss:List Seg} {o:Oper} {N:Nat} {env:Env} {K:Act->World->Prop}
theorem p_neg {t:TypeId} {x:Operand} {k:IntKind} {n z:Int} (hx:ev env x=some (.int k n)) (hz:arithZ .sub k 0 n=some z):PureOp P env (.unOp .neg t x) (.int k z):=fun _ a w o Z ho=>by
  simp only [arithZ,Option.some.injEq] at hz;subst hz;simp [execOp,ho,Z.eval hx,Op.unary,Op.intArith]
def ptrRow (P:Program) (tp:TypeId):Bool:=match P.underlying tp with
  |some (.pointer te)=>(match P.info? tp with|some i=>i.comparable|none=>false) && (match P.info? te with|some j=>j.size != 0|none=>false)
  |_=>false
theorem e_ptrSame {d:Nat} {ti tp:TypeId} {ms:Array (String×TypeId)} {p:Addr} (hi:P.underlying ti=some (.interface ms)) (hp:ptrRow P tp=true) :
    ∀w,(Op.equalIn (d+2) ti (.iface tp (.pointer (some p))) (.iface tp (.pointer (some p)))).run P w= .ok true w:=fun w=>by
  unfold ptrRow at hp;split at hp<;>try cases hp
  rename_i te hte;simp only [Bool.and_eq_true] at hp;obtain ⟨h1,h2⟩:=hp;split at h1<;>try cases h1
  rename_i i hi';split at h2<;>try cases h2
  rename_i j hj;exact run_equalIn_iface_ptr_same w d p hi hte hi' h1 hj
theorem o_appendRB {x y:Operand} {t e d n:Nat} {v vy:Value} {xs:List Value} {s:Seg} {bs:List Nat} (i:Nat) (Z:EnvOk N env a) (I:Inv w0 D ss w) (hd:o.dst=some d) (hN:Nat.blt d N=true)
    (ho:o.op= .call {callee:= .builtin .append,args:= #[x,y],argTypes:= #[t,t]}) (hx:ev env x=some v) (hy:ev env y=some vy) (ht:P.underlying t=some (.slice e))
    (hinfo:(P.info? e).map (fun i=>(i.zero,i.size,i.bytes))=some (some (.int .u8 0),1,1)) (hi:ss[i]? =some s) (hR:Row e 1 v n xs s) (hr:RB D vy bs) (hb:n+bs.length<=140737488355328)
    (k: ∀v' s' w',Row e 1 v' (n+bs.length) (xs++bytesV bs) s'->Inv w0 D (ss.set i s') w'-> ∀a',EnvOk N ((d,v')::env) a'->K a' w'):o.wp P a w K Q:=by
  obtain ⟨A,c,rfl,hc,hlt,hnil,hat⟩:=hr;cases A with
  |none=>
    have:bs= []:=by
      cases bs with
      |nil=>rfl
      |cons x r=>obtain ⟨b,off,cs,T,fr,h6,_⟩:=hat (by simp);cases h6
    subst this;have hc0:=hnil rfl;subst hc0;have hs:(P.info? e).map (·.size)=some 1:=by obtain ⟨inf,hi0,hzz⟩:=Option.map_eq_some_iff.1 hinfo;simp only [Prod.mk.injEq] at hzz;rw [hi0,Option.map_some,hzz.2.1]
    refine o_appendNil Z I hd hN ho hx hy ht hs hR (I.segs i hi) fun a' hE'=> ?_;have h1:ss.set i s=ss:=by
      apply List.ext_getElem?;intro j;by_cases hj:i=j
      ·subst hj;rw [hi,List.getElem?_set_self (List.getElem?_eq_some_iff.1 hi).1]
      ·rw [List.getElem?_set_ne hj]
    exact k v s w (by simpa [bytesV] using hR) (by rw [h1];exact I) a' hE'
  |some ad=>
    have hnews: ∀j u,(bytesV bs)[j]? =some u->w.cell? (ad.add j)=some u:=by
      intro j u hj;have hne:bs≠ []:=by rintro rfl;simp [bytesV] at hj
      obtain ⟨b,off,cs,T,fr,h6,h7,h8⟩:=hat hne;obtain rfl:=Option.some.inj h6;rw [addr_add,cell_of (I.data _ _ h7)];simp only [bytesV,List.getElem?_map,Option.map_eq_some_iff] at hj;obtain ⟨x,hx1,rfl⟩:=hj;exact h8 j x hx1
    refine o_append (z:= .int .u8 0) i Z I hd hN ho hx hy ht hinfo rfl rfl hi hR (by simp [bytesV]) hnews ?_ (by omega) (by omega) k;intro u hu;simp only [bytesV,List.mem_map] at hu;obtain ⟨x,_,rfl⟩:=hu;rfl
theorem o_make {t e size bytes d:Nat} {x y:Operand} {z:Value} {kl kc:IntKind} {l c:Int} {ss':Nat->List Seg} (i:Nat) (Z:EnvOk N env a) (I:Inv w0 D ss w) (hd:o.dst=some d) (hN:Nat.blt d N=true)
    (ho:o.op= .makeSlice t x y) (hx:ev env x=some (.int kl l)) (hy:ev env y=some (.int kc c)) (ht:P.underlying t=some (.slice e))
    (hinfo:(P.info? e).map (fun i=>(i.zero,i.size,i.bytes))=some (some z,size,bytes)) (h0:0<=l) (hlc:l<=c) (hb:(bytes:Int)*c<=281474976710656) (hm:c<=9223372036854775807)
    (hss: ∀b,insAt i [(b, .cells (madeCells z.cells (c.toNat*size)) e (0,0))] ss=ss' b)
    (k: ∀a' b w',EnvOk N ((d, .slice (some ⟨b,0,none⟩) l.toNat c.toNat)::env) a'->Inv w0 D (ss' b) w'->K a' w'):o.wp P a w K Q:=by
  obtain ⟨inf,hi0,hzz⟩:=Option.map_eq_some_iff.1 hinfo;simp only [Prod.mk.injEq] at hzz;obtain ⟨hz,rfl,rfl⟩:=hzz;have hr:=run_make (P:=P) w t e inf z ht hi0 hz kl kc l c h0 hlc hb hm;have hrun:(execOp a.eval o).run P w= .ok (.value (.slice (some ⟨w.heap.size,0,none⟩) l.toNat c.toNat)) {w with heap:=w.heap.push (.cells (madeCells z.cells (c.toNat*inf.size)) e (0,0))}:=by simp [execOp,ho,Z.eval hx,Z.eval hy,hr]
  exact o_val hrun (by rw [hd];exact k _ w.heap.size _ (Z.put hN _) (hss _▸I.new_at i _))
theorem size_madeCells' (z:Value) (n:Nat):(madeCells z.cells n).size=n:=by simp [madeCells]
end
def getL:List Value->Nat->Option Value
  | [],_=>none
  |x::_,0=>some x
  |_::r,n+1=>getL r n
theorem getL_eq: ∀(l:List Value) (n:Nat),getL l n=l[n]?
  | [],n=>by simp [getL]
  |x::r,0=>by simp [getL]
  |x::r,n+1=>by simp [getL,getL_eq r n]
def cutL:List Value->Nat->Nat->List Value
  |_,_,0=> []
  | [],_,_+1=> []
  |x::r,0,n+1=>x::cutL r 0 n
  |_::r,o+1,n+1=>cutL r o (n+1)
theorem cutL_eq: ∀(l:List Value) (o n:Nat),cutL l o n=(l.drop o).take n
  |_,_,0=>by simp [cutL]
  | [],_,_+1=>by simp [cutL]
  |x::r,0,n+1=>by simp [cutL,cutL_eq r 0 n]
  |_::r,o+1,n+1=>by simp [cutL,cutL_eq r o (n+1)]
def layL:List Value->Nat->List Value->List Value
  |l,_, []=>l
  | [],_,_::_=> []
  |_::r,0,v::vs=>v::layL r 0 vs
  |x::r,o+1,v::vs=>x::layL r o (v::vs)
theorem splice_cons (x:Value): ∀(vs:List Value) (r:List Value) (o:Nat),(splice (x::r).toArray (o+1) vs).toList=x::(splice r.toArray o vs).toList
  | [],r,o=>rfl
  |v::vs,r,o=>by
    simp only [splice];have e:(x::r).toArray.setIfInBounds (o+1) v=(x::r.set o v).toArray:=by simp
    have e2:r.toArray.setIfInBounds o v=(r.set o v).toArray:=by simp
    rw [e,e2];exact splice_cons x vs (r.set o v) (o+1)
theorem layL_eq: ∀(l:List Value) (o:Nat) (vs:List Value),(splice l.toArray o vs).toList=layL l o vs
  |l,o, []=>by cases l<;>cases o<;>simp [splice,layL]
  | [],o,v::vs=>by
    have: ∀(vs:List Value) (o:Nat),(splice #[] o vs)= #[]:=by
      intro vs;induction vs with
      |nil=>intro o;rfl
      |cons v vs ih=>intro o;simp only [splice];simpa using ih (o+1)
    simp only [layL];rw [this]
  |x::r,0,v::vs=>by
    simp only [layL,splice];have e:(x::r).toArray.setIfInBounds 0 v=(v::r).toArray:=by simp
    rw [e,splice_cons,layL_eq r 0 vs]
  |x::r,o+1,v::vs=>by
    simp only [layL];rw [splice_cons,layL_eq r o (v::vs)]
section
variable {P:Program} {ops:Array Oper} {Q:Exit->Act->World->Prop} {a:Act} {w0 w w':World} {D:Sto} {ss:List Seg} {o:Oper} {N:Nat} {env:Env} {K:Act->World->Prop}
theorem f_extract {x:Operand} {vs:Array Value} {i:Nat} {v:Value} (hx:ev env x=some (.tuple vs)) (hv:getL vs.toList i=some v):PureOp P env (.extract x i) v:=
  p_extract hx (by rw [getL_eq] at hv;simpa using hv)
theorem f_load {t:TypeId} {x:Operand} {b off:Nat} {cs:Array Value} {T:TypeId} {fr:Nat×Nat} {v:Value} (hx:ev env x=some (.pointer (some ⟨b,off,none⟩))) (ht:isScal P t=true)
    (hc:w.heap[b]? =some (.cells cs T fr)) (hv:getL cs.toList off=some v):RunOp P env w (.load t x) v:=r_load hx ht hc (by rw [getL_eq] at hv;simpa using hv)
theorem f_loadA {t:TypeId} {x:Operand} {b off n:Nat} {cs:Array Value} {vs:List Value} {T:TypeId} {fr:Nat×Nat} (hx:ev env x=some (.pointer (some ⟨b,off,none⟩))) (ht:aggSize P t=some n)
    (hc:w.heap[b]? =some (.cells cs T fr)) (hle:Nat.ble (off+n) cs.size=true) (hv:cutL cs.toList off n=vs):RunOp P env w (.load t x) (.agg vs.toArray):=r_loadA hx ht hc (Nat.le_of_ble_eq_true hle) (by
  rw [cutL_eq] at hv;subst hv;apply Array.toList_inj.1;simp)
theorem f_store {t:TypeId} {x y:Operand} {b off:Nat} {cs:Array Value} {l:List Value} {T:TypeId} {v:Value} {ss':List Seg} (i:Nat) (Z:EnvOk N env a) (I:Inv w0 D ss w) (hd:o.dst=none) (ho:o.op= .store t x y)
    (hx:ev env x=some (.pointer (some ⟨b,off,none⟩))) (hy:ev env y=some v) (hi:ss[i]? =some [(b, .cells cs T (0,0))]) (hsz:(P.info? t).map (·.size)=some v.cells.size)
    (h1:v.cells.all (·.oneCell')=true) (hle:Nat.ble (off+v.cells.size) cs.size=true) (hcs:layL cs.toList off v.cells.toList=l) (hss:ss.set i [(b, .cells l.toArray T (0,0))]=ss')
    (k: ∀w',Inv w0 D ss' w'->K a w'):o.wp P a w K Q:=by
  refine o_store i Z I hd ho hx hy hi hsz h1 hle rfl ?_ k;rw [<-layL_eq] at hcs;subst hcs;rw [<-hss]
theorem f_box {t:TypeId} {x:Operand} {d:Nat} {v:Value} {cs:Array Value} (Z:EnvOk N env a) (I:Inv w0 D ss w) (hd:o.dst=some d) (hN:Nat.blt d N=true) (ho:o.op= .box t x)
    (hx:ev env x=some v) (hcs:v.cells=cs)
    (k: ∀a' b w',EnvOk N ((d, .pointer (some ⟨b,0,none⟩))::env) a'->Inv w0 D ([(b, .cells cs t (0,0))]::ss) w'->K a' w'):o.wp P a w K Q:=
  o_box 0 Z I hd hN ho hx hcs (fun _=>rfl) k
theorem f_alloc {t:TypeId} {d:Nat} {z:Value} {cs:Array Value} (Z:EnvOk N env a) (I:Inv w0 D ss w) (hd:o.dst=some d) (hN:Nat.blt d N=true) (ho:o.op= .alloc t)
    (hz:(P.info? t).bind (·.zero)=some z) (hcs:z.cells=cs)
    (k: ∀a' b w',EnvOk N ((d, .pointer (some ⟨b,0,none⟩))::env) a'->Inv w0 D ([(b, .cells cs t (0,0))]::ss) w'->K a' w'):o.wp P a w K Q:=
  o_alloc 0 Z I hd hN ho hz hcs (fun _=>rfl) k
theorem f_make {t e size bytes d:Nat} {x y:Operand} {z:Value} {kl kc:IntKind} {l c:Int} (Z:EnvOk N env a) (I:Inv w0 D ss w) (hd:o.dst=some d) (hN:Nat.blt d N=true)
    (ho:o.op= .makeSlice t x y) (hx:ev env x=some (.int kl l)) (hy:ev env y=some (.int kc c)) (ht:P.underlying t=some (.slice e))
    (hinfo:(P.info? e).map (fun i=>(i.zero,i.size,i.bytes))=some (some z,size,bytes)) (h0:0<=l) (hlc:l<=c) (hb:(bytes:Int)*c<=281474976710656) (hm:c<=9223372036854775807)
    (k: ∀a' b w',EnvOk N ((d, .slice (some ⟨b,0,none⟩) l.toNat c.toNat)::env) a'->Inv w0 D ([(b, .cells (madeCells z.cells (c.toNat*size)) e (0,0))]::ss) w'->K a' w'):o.wp P a w K Q:=
  o_make 0 Z I hd hN ho hx hy ht hinfo h0 hlc hb hm (fun _=>rfl) k
def fillL (pl:List (Nat×Nat)):List (Nat×Value)->List Value->Option (List Value)
  | [],z=>some z
  |(i,v)::r,z=>match pl[i]? with
    |none=>none
    |some (off,size)=>bif Nat.beq v.cells.size size && Nat.ble (off+size) z.length then fillL pl r (layL z off v.cells.toList) else none
theorem fillL_fillS {pl:List (Nat×Nat)}: ∀(vs:List (Nat×Value)) (z l:List Value),fillL pl vs z=some l->fillS (pl.toArray[·]?) z.toArray vs=some l.toArray
  | [],z,l,h=>by simp [fillL] at h;subst h;rfl
  |(i,v)::r,z,l,h=>by
    simp only [fillL] at h;simp only [fillS];have e:pl.toArray[i]? =pl[i]? :=by simp
    rw [e];cases hp:pl[i]? with
    |none=>rw [hp] at h;cases h
    |some q=>
      obtain ⟨off,size⟩:=q;rw [hp] at h;simp only at h ⊢;cases hc:(Nat.beq v.cells.size size && Nat.ble (off+size) z.length) with
      |false=>rw [hc] at h;cases h
      |true=>
        rw [hc] at h;simp only [cond_true] at h;simp only [List.size_toArray,hc,if_true];have:=fillL_fillS r _ _ h;rw [<-layL_eq] at this;simpa using this
theorem f_build {t:TypeId} {parts:Array (Nat×Operand)} {vs:List (Nat×Value)} {pl:List (Nat×Nat)} {z l:List Value} (hv:parts.toList.map (fun p=>(p.1,ev env p.2))=vs.map (fun p=>(p.1,some p.2)))
    (hb: ∀vs,P.built t vs=Instr.fill (pl.toArray[·]?) z.toArray vs) (hf:fillL pl vs z=some l):PureOp P env (.build t parts) (.agg l.toArray):=
  p_buildS hv hb (fillL_fillS _ _ _ hf)
def litL (size:Nat):Nat->List (Nat×Value)->Option (List Value)
  |_, []=>some []
  |n,(i,v)::r=>bif Nat.beq i n && Nat.beq v.cells.size size then (match litL size (n+1) r with|some l=>some (v.cells.toList++l)|none=>none) else none
theorem litL_fillS {size:Nat}: ∀(vs:List (Nat×Value)) (n:Nat) (pre post l:List Value),litL size n vs=some l->pre.length=n*size->post.length=vs.length*size->
    fillS (fun i=>some (i*size,size)) (pre++post).toArray vs=some (pre++l).toArray
  | [],n,pre,post,l,h,hp,hq=>by
    simp [litL] at h;subst h;have:post= []:=List.eq_nil_of_length_eq_zero (by simpa using hq);subst this;rfl
  |(i,v)::r,n,pre,post,l,h,hp,hq=>by
    simp only [litL] at h;cases hc:(Nat.beq i n && Nat.beq v.cells.size size) with
    |false=>rw [hc] at h;cases h
    |true=>
      rw [hc] at h;simp only [cond_true] at h;simp only [Bool.and_eq_true] at hc;have h1:=Nat.eq_of_beq_eq_true hc.1;have h2:=Nat.eq_of_beq_eq_true hc.2;subst h1;split at h
      ·rename_i l' hl';injection h with h
       subst h;simp only [List.length_cons,Nat.add_mul,Nat.one_mul] at hq;have hle:Nat.ble (i*size+size) (pre++post).toArray.size=true:=Nat.ble_eq_true_of_le (by simp;omega);simp only [fillS,hle,hc.2,Bool.and_self,if_true];have hlay: ∀(pre:List Value) (vs post:List Value),vs.length<=post.length->layL (pre++post) pre.length vs=pre++(vs++post.drop vs.length):=by
         intro pre;induction pre with
         |nil=>
           intro vs;induction vs with
           |nil=>intro post _;cases post<;>simp [layL]
           |cons v vs ih=>
             intro post hl;cases post with
             |nil=>simp at hl
             |cons p post=>
               have:=ih post (by simpa using hl);simp only [List.nil_append,List.length_nil] at this;simp [layL,this]
         |cons x pre ih=>
           intro vs post hl;cases vs with
           |nil=>simp [layL]
           |cons v vs=>simp only [List.cons_append,List.length_cons,layL,ih (v::vs) post hl]
       have hsp:splice (pre++post).toArray (i*size) v.cells.toList=((pre++v.cells.toList)++post.drop size).toArray:=by apply Array.toList_inj.1;rw [layL_eq,<-hp,hlay pre _ post (by simp;omega)];simp [h2]
       rw [hsp,litL_fillS r (i+1) (pre++v.cells.toList) (post.drop size) l' hl' (by simp [hp,h2,Nat.add_mul]) (by simp;omega)];simp
      ·cases h
theorem f_lit {t e len size d:Nat} {parts:Array (Nat×Operand)} {vs:List (Nat×Value)} {z:Value} {l:List Value} (Z:EnvOk N env a) (I:Inv w0 D ss w) (hd:o.dst=some d) (hN:Nat.blt d N=true)
    (ho:o.op= .buildSlice t len parts) (hv:parts.toList.map (fun p=>(p.1,ev env p.2))=vs.map (fun p=>(p.1,some p.2))) (ht:P.underlying t=some (.slice e))
    (hinfo:(P.info? e).map (fun i=>(i.zero,i.size))=some (some z,size)) (hsm:Nat.ble (len*size) 1000=true) (hlen:Nat.beq vs.length len=true) (hf:litL size 0 vs=some l)
    (k: ∀a' b w',EnvOk N ((d, .slice (some ⟨b,0,none⟩) len len)::env) a'->Inv w0 D ([(b, .cells l.toArray e (0,0))]::ss) w'->K a' w'):o.wp P a w K Q:=by
  refine o_lit 0 Z I hd hN ho hv ht hinfo hsm ?_ (fun _=>rfl) k;have:=litL_fillS vs 0 [] ((List.range (len*size)).map (fun i=>z.cells[i % z.cells.size]!)) l hf (by simp) (by rw [Nat.eq_of_beq_eq_true hlen];simp);simpa using this
theorem RB.cut {D:Sto} {A:Option Addr} {n c l h:Nat} {bs:List Nat} (hr:RB D (.slice A n c) bs) (hl:l<=h) (hh:h<=bs.length) :
    h<=c/\RB D (.slice (if c=l then A else A.map (·.add (l*1))) (h - l) (c - l)) ((bs.drop l).take (h - l)):=by
  have hlen:=hr.len;refine ⟨by omega, ?_⟩;have h3:=hr.lt;obtain ⟨A',c',h1,h2,_,h4,h5⟩:=hr;injection h1 with e1 e2 e3
  subst e1;subst e3;refine ⟨(if c=l then A else A.map (·.add (l*1))),c - l, ?_, ?_,fun x hx=>h3 x (List.mem_of_mem_drop (List.mem_of_mem_take hx)), ?_,fun hne=> ?_⟩
  ·simp;omega
  ·simp;omega
  ·intro hn;split at hn
   ·have:=h4 hn;omega
   ·cases A with
    |none=>have:=h4 rfl;omega
    |some a=>simp at hn
  ·have hlt:l<h:=by
     rcases Nat.lt_or_ge l h with h6|h6
     ·exact h6
     ·exfalso;apply hne;have:h - l=0:=by omega
      rw [this];simp
   obtain ⟨b,off,cs,T,fr,h6,h7,h8⟩:=h5 (by rintro rfl;simp at hh;omega);subst h6;rw [if_neg (by omega)];refine ⟨b,off+l,cs,T,fr, ?_,h7,fun i x hi=> ?_⟩
   ·simp [addr_add]
   ·have h9:=List.getElem?_eq_some_iff.1 hi;obtain ⟨hi1,hi2⟩:=h9;simp at hi1 hi2;have:bs[l+i]? =some x:=by rw [List.getElem?_eq_getElem (by omega),hi2]
    have:=h8 (l+i) x this;rw [Nat.add_assoc];exact this
def loE (env:Env) (d:Nat):Option Operand->Option Nat
  |none=>some d
  |some y=>match ev env y with
    |some (.int _ i)=>if 0<=i then some i.toNat else none
    |_=>none
theorem lo_at {env:Env} {d n:Nat} {y:Operand} {k:IntKind} {i:Int} (he:ev env y=some (.int k i)) (h0:0<=i) (h1:i.toNat=n):loE env d (some y)=some n:=by simp only [loE,he,if_pos h0,h1]
theorem o_sliceRB {t e:TypeId} {x:Operand} {lo hi:Option Operand} {A:Option Addr} {n c l h d:Nat} {bs:List Nat} (Z:EnvOk N env a) (hd:o.dst=some d) (hN:Nat.blt d N=true) (ho:o.op= .slice t x lo hi none)
    (hx:ev env x=some (.slice A n c)) (ht:P.underlying t=some (.slice e)) (hs:(P.info? e).map (·.size)=some 1)
    (hl:loE env 0 lo=some l) (hh:loE env n hi=some h) (hr:RB D (.slice A n c) bs) (hlh:l<=h) (hhb:h<=bs.length)
    (k: ∀A' c',RB D (.slice A' ((bs.drop l).take (h - l)).length c') ((bs.drop l).take (h - l))-> ∀a',EnvOk N ((d, .slice A' ((bs.drop l).take (h - l)).length c')::env) a'->K a' w):o.wp P a w K Q:=by
  obtain ⟨h1,h2⟩:=hr.cut hlh hhb;have e:((bs.drop l).take (h - l)).length=h - l:=by simp;omega
  have hp:=p_slice (P:=P) hx ht hs (lo:=lo) (hi:=hi) (l:=l) (h:=h) (by cases lo<;>exact hl) (by cases hi<;>exact hh) hlh h1;exact o_pure Z hd hN (by rw [ho];exact hp.run) (by rw [<-e];exact k _ _ (by rw [e];exact h2))
end
open Go Go.ChangeMaps
def getM:List (Int×Value)->Int->Option Value
  | [],_=>none
  |(q,v)::r,k=>if q=k then some v else getM r k
def putM:List (Int×Value)->Int->Value->List (Int×Value)
  | [],k,v=> [(k,v)]
  |(q,u)::r,k,v=>if q=k then (k,v)::r else (q,u)::putM r k v
theorem getM_put: ∀(m:List (Int×Value)) (k j:Int) (v:Value),getM (putM m k v) j=if k=j then some v else getM m j
  | [],k,j,v=>by simp [putM,getM]
  |(q,u)::r,k,j,v=>by
    simp only [putM];by_cases h:q=k
    ·subst h;simp only [if_true,getM];by_cases hj:q=j<;>simp [hj]
    ·rw [if_neg h];simp only [getM,getM_put r k j v];by_cases hq:q=j
     ·subst hq;rw [if_pos rfl,if_neg (fun e=>h e.symm),if_pos rfl]
     ·rw [if_neg hq,if_neg hq]
theorem putM_keys: ∀(m:List (Int×Value)) (k:Int) (v:Value),(putM m k v).map (·.1)=if k∈m.map (·.1) then m.map (·.1) else m.map (·.1)++ [k]
  | [],k,v=>by simp [putM]
  |(q,u)::r,k,v=>by
    simp only [putM];by_cases h:q=k
    ·subst h;simp
    ·rw [if_neg h];simp only [List.map_cons,putM_keys r k v,List.mem_cons];by_cases hk:k∈r.map (·.1)
     ·rw [if_pos hk,if_pos (.inr hk)]
     ·rw [if_neg hk,if_neg]
      ·rfl
      ·rintro (e|e)
       ·exact h e.symm
       ·exact hk e
theorem getM_none {m:List (Int×Value)} {k:Int}:getM m k=none↔k ∉ m.map (·.1):=by
  induction m with
  |nil=>simp [getM]
  |cons p r ih=>
    obtain ⟨q,u⟩:=p;simp only [getM,List.map_cons,List.mem_cons,not_or];by_cases h:q=k
    ·subst h;simp
    ·rw [if_neg h,ih];constructor
     ·exact fun h2=>⟨fun e=>h e.symm,h2⟩
     ·exact fun h2=>h2.2
theorem getM_mem {m:List (Int×Value)} {k:Int} {v:Value} (h:getM m k=some v):(k,v)∈m:=by
  induction m with
  |nil=>cases h
  |cons p r ih=>
    obtain ⟨q,u⟩:=p;simp only [getM] at h;split at h
    ·rename_i e;subst e;injection h with h;subst h;simp
    ·exact List.mem_cons_of_mem _ (ih h)
theorem getM_of_mem {m:List (Int×Value)} (hn:(m.map (·.1)).Nodup) {k:Int} {v:Value} (h:(k,v)∈m):getM m k=some v:=by
  induction m with
  |nil=>cases h
  |cons p r ih=>
    obtain ⟨q,u⟩:=p;simp only [List.map_cons,List.nodup_cons] at hn;simp only [getM];rcases List.mem_cons.1 h with h|h
    ·injection h with h1 h2;subst h1;subst h2;rw [if_pos rfl]
    ·rw [if_neg,ih hn.2 h];rintro rfl;exact hn.1 (List.mem_map_of_mem (f:=(·.1)) h)
def entOf (p:Int×Value):Value×Value:=(.int .i64 p.1,p.2)
structure IntMap (es:Array MapEntry) (clock:Nat) (m:List (Int×Value)):Prop where
  eq:es.toList.map (fun e=>(e.key,e.val))=m.map entOf
  nd:(m.map (·.1)).Nodup
  old: ∀e∈es.toList,e.born<clock
  born:(es.toList.map (·.born)).Nodup
theorem IntMap.empty:IntMap #[] 0 []:=⟨rfl,by simp,by simp,by simp⟩
theorem IntMap.size {es:Array MapEntry} {clock:Nat} {m:List (Int×Value)} (h:IntMap es clock m):es.size=m.length:=by have:=congrArg List.length h.eq;simpa using this
def atM:List (Int×Value)->Int->Nat->Option (Nat×Value)
  | [],_,_=>none
  |(q,v)::r,k,i=>if q=k then some (i,v) else atM r k (i+1)
theorem find_int {d:TypeDesc} {kd:IntKind} (hd:d= .int kd) (k:Int): ∀(es:List MapEntry) (m:List (Int×Value)) (i:Nat),es.map (fun e=>(e.key,e.val))=m.map entOf->
    Instr.findNow d (.int .i64 k) es i=some (atM m k i)
  | [], [],i,_=>rfl
  | [],_::_,i,h=>by simp at h
  |_::_, [],i,h=>by simp at h
  |e::es,(q,v)::m,i,h=>by
    subst hd;simp only [List.map_cons,List.cons.injEq,entOf,Prod.mk.injEq] at h;obtain ⟨⟨h1,h2⟩,h3⟩:=h;simp only [Instr.findNow,h1,h2,Instr.sameNow,if_true,atM];by_cases hk:q=k
    ·subst hk;simp
    ·have:(k==q)=false:=by simpa using fun e=>hk e.symm
     rw [this,if_neg hk];exact find_int rfl k es m (i+1) h3
theorem atM_get: ∀(m:List (Int×Value)) (k:Int) (i:Nat),(atM m k i).map (·.2)=getM m k
  | [],_,_=>rfl
  |(q,v)::r,k,i=>by
    simp only [atM,getM];by_cases h:q=k
    ·rw [if_pos h,if_pos h];rfl
    ·rw [if_neg h,if_neg h];exact atM_get r k (i+1)
theorem atM_spec: ∀(m:List (Int×Value)) (k:Int) (i j:Nat) (v:Value),atM m k i=some (j,v)->i<=j/\m[j - i]? =some (k,v)
  | [],_,_,_,_,h=>by cases h
  |(q,u)::r,k,i,j,v,h=>by
    simp only [atM] at h;split at h
    ·rename_i e;subst e;injection h with h;injection h with h1 h2;subst h1;subst h2
     simp
    ·obtain ⟨h1,h2⟩:=atM_spec r k (i+1) j v h;refine ⟨by omega, ?_⟩;rw [show j - i=(j - (i+1))+1 by omega,List.getElem?_cons_succ];exact h2
section
variable {P:Program} {ops:Array Oper} {Q:Exit->Act->World->Prop} {a:Act} {w0 w w':World} {D:Sto} {ss:List Seg} {o:Oper} {N:Nat} {env:Env} {K:Act->World->Prop}
def intKeyed (P:Program) (t:TypeId):Option TypeId:=match P.underlying t with
  |some (.map k e)=>match P.underlying k with
    |some (.int _)=>some e
    |_=>none
  |_=>none
theorem intKeyed_spec {t e:TypeId} (h:intKeyed P t=some e): ∃k kd,P.underlying t=some (.map k e)/\P.underlying k=some (.int kd):=by
  unfold intKeyed at h;split at h<;>try cases h
  rename_i k e' hk;split at h<;>try cases h
  rename_i kd hkd;exact ⟨k,kd,hk,hkd⟩
theorem checkKey_int {k:TypeId} {kd:IntKind} (hk:P.underlying k=some (.int kd)) (b:Bool) (n:Nat) (i:Int): ∀w,(Instr.checkKey b (n+1) k (.int .i64 i)).run P w= .ok () w:=fun w=>by
  simp [Instr.checkKey,underlying,program,hk,Sem.run]
theorem findKey_int {k:TypeId} {kd:IntKind} (hk:P.underlying k=some (.int kd)) {es:Array MapEntry} {clock:Nat} {m:List (Int×Value)} (hm:IntMap es clock m) (i:Int): ∀w,(Instr.findKey k (.int .i64 i) es.toList).run P w= .ok (atM m i 0) w:=fun w=>by
  simp [Instr.findKey,underlying,program,hk,Sem.run,find_int rfl i es.toList m 0 hm.eq]
theorem run_getObj {b:Nat} {ob:Obj} (h:w.heap[b]? =some ob) (hc:(match ob with| .cells .. =>false|_=>true)=true):(getObj b).run P w= .ok ob w:=by simp only [getObj,Sem.run,h];cases ob<;>simp at hc<;>rfl
theorem run_setObj {b:Nat} {ob:Obj} (h:w.heap[b]? =some ob) (hc:(match ob with| .cells .. =>false|_=>true)=true) (ob':Obj):(setObj b ob').run P w= .ok () {w with heap:=w.heap.setIfInBounds b ob'}:=by simp only [setObj,Sem.run,h];cases ob<;>simp at hc<;>rfl
theorem run_lookup_int {t e:TypeId} {b:Nat} {es:Array MapEntry} {clock:Nat} {m:List (Int×Value)} {i:Int} {z:Value} {ok:Bool} (ht:intKeyed P t=some e) (hb:w.heap[b]? =some (.map es clock)) (hm:IntMap es clock m)
    (hz:(P.info? e).bind (·.zero)=some z) :
    (Instr.lookup t (.map (some b)) (.int .i64 i) ok).run P w= .ok (if ok then .tuple #[(getM m i).getD z, .bool (getM m i).isSome] else (getM m i).getD z) w:=by
  obtain ⟨k,kd,h1,h2⟩:=intKeyed_spec ht;obtain ⟨inf,hinf,hz'⟩:=Option.bind_eq_some_iff.1 hz;have hg:=atM_get m i 0;cases hat:atM m i 0 with
  |none=>
    rw [hat] at hg;simp only [Option.map_none] at hg;simp [Instr.lookup,run_underlying h1,run_getObj hb rfl,checkKey_int h2,findKey_int h2 hm,hat,zeroValue,typeInfo,hinf,hz',<-hg]
  |some q=>
    rw [hat] at hg;simp only [Option.map_some] at hg;simp [Instr.lookup,run_underlying h1,run_getObj hb rfl,checkKey_int h2,findKey_int h2 hm,hat,<-hg]
theorem r_lookupY {t e:TypeId} {x y:Operand} {b:Nat} {es:Array MapEntry} {clock:Nat} {m:List (Int×Value)} {i:Int} {z v:Value} (hx:ev env x=some (.map (some b))) (hy:ev env y=some (.int .i64 i)) (ht:intKeyed P t=some e)
    (hz:(P.info? e).bind (·.zero)=some z) (hb:w.heap[b]? =some (.map es clock)) (hm:IntMap es clock m) (hg:getM m i=some v):RunOp P env w (.lookup t x y true) (.tuple #[v, .bool true]):=fun _ a o Z ho=>by
  have h:=run_lookup_int (ok:=true) (i:=i) ht hb hm hz;rw [hg] at h;simp only [if_true,Option.getD_some,Option.isSome_some] at h;simp [execOp,ho,Z.eval hx,Z.eval hy,h]
theorem r_lookupN {t e:TypeId} {x y:Operand} {b:Nat} {es:Array MapEntry} {clock:Nat} {m:List (Int×Value)} {i:Int} {z:Value} (hx:ev env x=some (.map (some b))) (hy:ev env y=some (.int .i64 i)) (ht:intKeyed P t=some e)
    (hz:(P.info? e).bind (·.zero)=some z) (hb:w.heap[b]? =some (.map es clock)) (hm:IntMap es clock m) (hg:getM m i=none):RunOp P env w (.lookup t x y true) (.tuple #[z, .bool false]):=fun _ a o Z ho=>by
  have h:=run_lookup_int (ok:=true) (i:=i) ht hb hm hz;rw [hg] at h;simp only [if_true,Option.getD_none,Option.isSome_none] at h;simp [execOp,ho,Z.eval hx,Z.eval hy,h]
theorem r_lenM {t k e:TypeId} {x:Operand} {b:Nat} {es:Array MapEntry} {clock:Nat} {m:List (Int×Value)} {ts:Array TypeId} (hx:ev env x=some (.map (some b))) (hts:ts[0]? =some t) (ht:P.underlying t=some (.map k e))
    (hb:w.heap[b]? =some (.map es clock)) (hm:IntMap es clock m):RunOp P env w (.call {callee:= .builtin .len,args:= #[x],argTypes:=ts}) (.int .i64 (m.length:Nat)):=fun _ a o Z ho=>by
  simp [execOp,ho,resolve,Z.eval hx,invoke,builtin,Builtin.len_,hts,run_underlying ht,run_getObj hb rfl,goInt,hm.size]
theorem f_makeMap {t d:Nat} (Z:EnvOk N env a) (I:Inv w0 D ss w) (hd:o.dst=some d) (hN:Nat.blt d N=true) (ho:o.op= .makeMap t none)
    (k: ∀a' b w',EnvOk N ((d, .map (some b))::env) a'->Inv w0 D ([(b, .map #[] 0)]::ss) w'->K a' w'):o.wp P a w K Q:=by
  have hrun:(execOp a.eval o).run P w= .ok (.value (.map (some w.heap.size))) {w with heap:=w.heap.push (.map #[] 0)}:=by simp [execOp,ho,Instr.makeMap,newObj,Sem.run]
  exact o_val hrun (by rw [hd];exact k _ w.heap.size _ (Z.put hN _) (I.new _))
theorem put_map {es:Array MapEntry} {clock:Nat} {m:List (Int×Value)} (hm:IntMap es clock m) (i:Int) (v:Value) :
    (∀j u,atM m i 0=some (j,u)->IntMap (es.modify j fun e=>{e with key:= .int .i64 i,val:=v}) clock (putM m i v))/\(atM m i 0=none->IntMap (es.push {key:= .int .i64 i,val:=v,born:=clock}) (clock+1) (putM m i v)):=by
  constructor
  ·intro j u hj;obtain ⟨_,hmj⟩:=atM_spec m i 0 j u hj;simp only [Nat.sub_zero] at hmj;have hput: ∀(m:List (Int×Value)) (s:Nat),atM m i s=some (j+s,u)->putM m i v=m.set j (i,v):=by
     clear hmj hj hm;intro m;induction m generalizing j with
     |nil=>intro s h;cases h
     |cons p r ih=>
       intro s h;obtain ⟨q,x⟩:=p;simp only [atM] at h;simp only [putM];split at h
       ·rename_i e;injection h with h;injection h with h1 _
        have:j=0:=by omega
        subst this;rw [if_pos e];rfl
       ·rename_i e;rw [if_neg e];obtain ⟨h1,_⟩:=atM_spec r i (s+1) _ u h;obtain ⟨j',rfl⟩: ∃j',j=j'+1:=⟨j - 1,by omega⟩;rw [ih j' (Nat.zero_le _) (s+1) (by rw [h];congr 2;omega)];rfl
   have hp:=hput m 0 hj;have hlen:=hm.size;have hjl:j<m.length:=(List.getElem?_eq_some_iff.1 hmj).1;have htl:(es.modify j fun e=>{e with key:= .int .i64 i,val:=v}).toList=es.toList.set j {(es[j]'(by omega)) with key:= .int .i64 i,val:=v}:=by
     apply List.ext_getElem?;intro q;simp only [Array.getElem?_toList,Array.getElem?_modify,List.getElem?_set,Array.length_toList];by_cases hq:j=q
     ·subst hq;simp [hlen,hjl]
     ·simp [hq]
   have hb:((es.toList.set j {(es[j]'(by omega)) with key:= .int .i64 i,val:=v}).map (·.born))=es.toList.map (·.born):=by
     rw [List.map_set];apply List.ext_getElem?;intro q;rw [List.getElem?_set];by_cases hq:j=q
     ·subst hq;simp [hlen,hjl]
     ·simp [hq]
   refine ⟨?_, ?_, ?_, ?_⟩
   ·rw [htl,List.map_set,hm.eq,hp,List.map_set];rfl
   ·rw [putM_keys,if_pos]
    ·exact hm.nd
    ·exact List.mem_map.2 ⟨_,List.mem_of_getElem? hmj,rfl⟩
   ·intro e he;rw [htl] at he;have:e.born∈(es.toList.set j {(es[j]'(by omega)) with key:= .int .i64 i,val:=v}).map (·.born):=List.mem_map_of_mem he;rw [hb] at this;obtain ⟨e',he',hbe⟩:=List.mem_map.1 this;rw [<-hbe];exact hm.old e' he'
   ·rw [htl,hb];exact hm.born
  ·intro hn;have hg:getM m i=none:=by rw [<-atM_get m i 0,hn];rfl
   have hk:=getM_none.1 hg;have hp: ∀(m:List (Int×Value)),i ∉ m.map (·.1)->putM m i v=m++ [(i,v)]:=by
     intro m;induction m with
     |nil=>intro _;rfl
     |cons p r ih=>
       intro h;simp only [List.map_cons,List.mem_cons,not_or] at h;obtain ⟨q,x⟩:=p;simp only [putM];rw [if_neg (fun e=>h.1 e.symm),ih h.2];rfl
   refine ⟨?_, ?_, ?_, ?_⟩
   ·rw [hp m hk];simp [hm.eq,entOf]
   ·rw [putM_keys,if_neg hk];rw [List.nodup_append];exact ⟨hm.nd,by simp,fun x hx y hy e=>by simp at hy;subst hy;subst e;exact hk hx⟩
   ·intro e he;simp only [Array.toList_push,List.mem_append,List.mem_singleton] at he;rcases he with he|rfl
    ·have:=hm.old e he;omega
    ·simp
   ·simp only [Array.toList_push,List.map_append,List.map_cons,List.map_nil];rw [List.nodup_append];refine ⟨hm.born,by simp,fun x hx y hy e=> ?_⟩;simp at hy;subst hy;subst e;obtain ⟨e',he',hb⟩:=List.mem_map.1 hx;have:=hm.old e' he';omega
theorem run_update_int {t e:TypeId} {b:Nat} {es:Array MapEntry} {clock:Nat} {m:List (Int×Value)} {i:Int} {v:Value} (ht:intKeyed P t=some e) (hb:w.heap[b]? =some (.map es clock)) (hm:IntMap es clock m) :
    ∃es' clock',IntMap es' clock' (putM m i v)/\(Instr.mapUpdate t (.map (some b)) (.int .i64 i) v).run P w= .ok () {w with heap:=w.heap.setIfInBounds b (.map es' clock')}:=by
  obtain ⟨k,kd,h1,h2⟩:=intKeyed_spec ht;cases hat:atM m i 0 with
  |none=>
    exact ⟨_,_,(put_map hm i v).2 hat,by simp [Instr.mapUpdate,run_underlying h1,run_getObj hb rfl,checkKey_int h2,findKey_int h2 hm,hat,run_setObj hb rfl]⟩
  |some q=>
    obtain ⟨j,u⟩:=q;obtain ⟨_,hmj⟩:=atM_spec m i 0 j u hat;simp only [Nat.sub_zero] at hmj;have hjl:j<m.length:=(List.getElem?_eq_some_iff.1 hmj).1;have hkey:((es[j]?).map (·.key)).getD (.int .i64 i)= .int .i64 i:=by
      have h3:(es.toList.map (fun e=>(e.key,e.val)))[j]? =some (.int .i64 i,u):=by rw [hm.eq,List.getElem?_map,hmj];rfl
      rw [List.getElem?_map] at h3;cases h4:es[j]? with
      |none=>rfl
      |some x=>
        rw [Array.getElem?_toList,h4] at h3;simp at h3;simp [h3.1]
    have hstay: ∀w,(Instr.keyThatStays (.int .i64 i) (.int .i64 i)).run P w= .ok (.int .i64 i) w:=fun w=>by
      simp [Instr.keyThatStays,Instr.sameBits]
    exact ⟨_,_,(put_map hm i v).1 j u hat,by simp [Instr.mapUpdate,run_underlying h1,run_getObj hb rfl,checkKey_int h2,findKey_int h2 hm,hat,hkey,hstay,run_setObj hb rfl]⟩
theorem o_mapUpdate {t e:TypeId} {x y u:Operand} {b:Nat} {es:Array MapEntry} {clock:Nat} {m:List (Int×Value)} {i:Int} {v:Value} (j:Nat) (Z:EnvOk N env a) (I:Inv w0 D ss w) (hd:o.dst=none)
    (ho:o.op= .mapUpdate t x y u\/o.op= .insert t x y u) (hx:ev env x=some (.map (some b))) (hy:ev env y=some (.int .i64 i)) (hu:ev env u=some v) (ht:intKeyed P t=some e) (hj:ss[j]? =some [(b, .map es clock)]) (hm:IntMap es clock m)
    (k: ∀es' clock' w',IntMap es' clock' (putM m i v)->Inv w0 D (ss.set j [(b, .map es' clock')]) w'->K a w'):o.wp P a w K Q:=by
  have hb:=I.seg j hj;obtain ⟨es',clock',hm',hr⟩:=run_update_int (P:=P) (i:=i) (v:=v) ht hb hm;have hrun:(execOp a.eval o).run P w= .ok .skip {w with heap:=w.heap.setIfInBounds b (.map es' clock')}:=by rcases ho with ho|ho<;>simp [execOp,ho,Z.eval hx,Z.eval hy,Z.eval hu,hr]
  refine o_skip hrun ?_;rw [hd];exact k _ _ _ hm' (I.turn_at j hj)
structure Vis (es:Array MapEntry) (seen:Array Nat) (m vis:List (Int×Value)):Prop where
  sub: ∀p∈vis,p∈m
  nd:(vis.map (·.1)).Nodup
  iff: ∀e∈es.toList,∀p,(e.key,e.val)=entOf p->(seen.contains e.born=true↔p∈vis)
def Last (es:Array MapEntry) (seen:Array Nat) (p:Int×Value):Prop:= ∃e∈es.toList,seen.back? =some e.born/\(e.key,e.val)=entOf p
theorem Vis.start (es:Array MapEntry) (m:List (Int×Value)):Vis es #[] m []:=⟨by simp,by simp,fun e _ p _=>by simp⟩
theorem f_range {t k e d:Nat} {x:Operand} {b:Nat} {es:Array MapEntry} {clock:Nat} (j:Nat) (Z:EnvOk N env a) (I:Inv w0 D ss w) (hd:o.dst=some d) (hN:Nat.blt d N=true) (ho:o.op= .range t x)
    (hx:ev env x=some (.map (some b))) (ht:P.underlying t=some (.map k e)) (hj:ss[j]? =some [(b, .map es clock)])
    (kk: ∀a' r w',EnvOk N ((d, .pointer (some ⟨r,0,none⟩))::env) a'->Inv w0 D ([(r, .mapIter (some b) clock #[] clock)]::ss) w'->K a' w'):o.wp P a w K Q:=by
  have hb:=I.seg j hj;have hrun:(execOp a.eval o).run P w= .ok (.value (.pointer (some ⟨w.heap.size,0,none⟩))) {w with heap:=w.heap.push (.mapIter (some b) clock #[] clock)}:=by simp [execOp,ho,Z.eval hx,Instr.range,run_underlying ht,run_getObj hb rfl,newObj,Sem.run]
  exact o_val hrun (by rw [hd];exact kk _ w.heap.size _ (Z.put hN _) (I.new _))
theorem o_next {d:Nat} {x:Operand} {b r:Nat} {es:Array MapEntry} {clock:Nat} {m vis:List (Int×Value)} {seen:Array Nat} (j q:Nat) (Z:EnvOk N env a) (I:Inv w0 D ss w) (hd:o.dst=some d) (hN:Nat.blt d N=true) (ho:o.op= .next x false)
    (hx:ev env x=some (.pointer (some ⟨r,0,none⟩))) (hj:ss[j]? =some [(b, .map es clock)]) (hq:ss[q]? =some [(r, .mapIter (some b) clock seen clock)]) (hm:IntMap es clock m) (hv:Vis es seen m vis)
    (over:(∀p∈m,p∈vis)-> ∀a',EnvOk N ((d, .tuple #[.bool false])::env) a'->K a' w)
    (step: ∀p,p∈m->p ∉ vis-> ∀seen' w',Vis es seen' m (p::vis)->Last es seen' p->Inv w0 D (ss.set q [(r, .mapIter (some b) clock seen' clock)]) w'->
      ∀a',EnvOk N ((d, .tuple #[.bool true, .int .i64 p.1,p.2])::env) a'->K a' w'):o.wp P a w K Q:=by
  have hb:=I.seg j hj;have hr:=I.seg q hq;have hent: ∀e∈es.toList,∃p,p∈m/\(e.key,e.val)=entOf p:=by intro e he;have h1:(e.key,e.val)∈es.toList.map (fun e=>(e.key,e.val)):=List.mem_map_of_mem (f:=fun e=>(e.key,e.val)) he;rw [hm.eq] at h1;obtain ⟨p,hp,hpe⟩:=List.mem_map.1 h1;exact ⟨p,hp,hpe.symm⟩
  have hmem: ∀p∈m,∃e∈es.toList,(e.key,e.val)=entOf p:=by intro p hp;have h1:entOf p∈m.map entOf:=List.mem_map_of_mem hp;rw [<-hm.eq] at h1;obtain ⟨e,he,hee⟩:=List.mem_map.1 h1;exact ⟨e,he,hee⟩
  have einj: ∀p p':Int×Value,entOf p=entOf p'->p=p':=by intro p p' h;simp only [entOf,Prod.mk.injEq,Value.int.injEq,true_and] at h;exact Prod.ext h.1 h.2
  rcases run_next_at (P:=P) w o.type r b clock clock seen es clock hr hb hm.old (Nat.le_refl _) with ⟨h0,hrun⟩|⟨e,he,w1,hw1,hrun⟩
  ·have hrun':(execOp a.eval o).run P w= .ok (.value (.tuple #[.bool false])) w:=by simp [execOp,ho,Z.eval hx,hrun]
   have hall: ∀p∈m,p∈vis:=fun p hp=>by
     obtain ⟨e,he,hee⟩:=hmem p hp;refine (hv.iff e he p hee).1 ?_;have hl:leftOf es seen= #[]:=Array.eq_empty_of_size_eq_zero h0;unfold leftOf at hl;rw [Array.filter_eq_empty_iff] at hl;have:=hl e (by simpa using he);simpa using this
   exact o_val hrun' (by rw [hd];exact over hall _ (Z.put hN _))
  ·have hrun':(execOp a.eval o).run P w= .ok (.value (.tuple #[.bool true,e.key,e.val])) (setBlock w1 r (.mapIter (some b) clock (seen.push e.born) clock)):=by simp [execOp,ho,Z.eval hx,hrun]
   have he':e∈es.toList/\seen.contains e.born=false:=by unfold leftOf at he;simp only [Array.toList_filter,List.mem_filter,Bool.not_eq_true'] at he;exact he
   obtain ⟨p,hp,hpe⟩:=hent e he'.1;have hnv:p ∉ vis:=fun h=>by
     have:=(hv.iff e he'.1 p hpe).2 h;rw [he'.2] at this;cases this
   have hI1:Inv w0 D ss w1:=by
     rcases hw1 with rfl|rfl
     ·exact I
     ·exact I.drawn _
   have hkv:e.key= .int .i64 p.1/\e.val=p.2:=by simpa [entOf] using hpe
   refine o_val hrun' ?_;rw [hd,hkv.1,hkv.2];refine step p hp hnv (seen.push e.born) _ ⟨?_, ?_, ?_⟩ ⟨e,he'.1,by simp,hpe⟩ (hI1.turn_at q hq) _ (Z.put hN _)
   ·intro x hx';rcases List.mem_cons.1 hx' with rfl|hx'
    ·exact hp
    ·exact hv.sub x hx'
   ·simp only [List.map_cons,List.nodup_cons];refine ⟨fun hmem'=> ?_,hv.nd⟩;obtain ⟨y,hy,hye⟩:=List.mem_map.1 hmem';have h1:=getM_of_mem hm.nd (hv.sub y hy);have h2:=getM_of_mem hm.nd hp;rw [hye] at h1;rw [h1] at h2;injection h2 with h2
    have hyp:y=p:=Prod.ext hye h2;exact hnv (hyp▸hy)
   ·intro e2 he2 p2 hpe2;rw [Array.contains_push];simp only [Bool.or_eq_true,beq_iff_eq,List.mem_cons];constructor
    ·rintro (h|h)
     ·right;exact (hv.iff e2 he2 p2 hpe2).1 h
     ·left;have hee:e2=e:=by
        have:=find_born e2 es.toList hm.born he2;have h3:=find_born e es.toList hm.born he'.1;rw [h] at this;rw [this] at h3;exact Option.some.inj h3
      subst hee;exact einj _ _ (hpe2.symm.trans hpe)
    ·rintro (h|h)
     ·right;subst h;have h1: ∀(l:List MapEntry) (m:List (Int×Value)),l.map (fun e=>(e.key,e.val))=m.map entOf->(m.map (·.1)).Nodup->e∈l->e2∈l->e2=e:=by
        intro l;induction l with
        |nil=>intro m _ _ h;cases h
        |cons x l ih=>
          intro m h hn h1 h2;cases m with
          |nil=>simp at h
          |cons y m=>
            simp only [List.map_cons,List.cons.injEq,List.nodup_cons] at h hn;have no: ∀z∈l,(z.key,z.val)=entOf p2->(x.key,x.val)=entOf p2->False:=by intro z hz h3 h4;have h5:(z.key,z.val)∈l.map (fun e=>(e.key,e.val)):=List.mem_map_of_mem (f:=fun e=>(e.key,e.val)) hz;rw [h.2,h3] at h5;obtain ⟨y',hy',hy2⟩:=List.mem_map.1 h5;rw [einj _ _ hy2] at hy';rw [h.1] at h4;rw [einj _ _ h4] at hn;exact hn.1 (List.mem_map_of_mem (f:=(·.1)) hy')
            rcases List.mem_cons.1 h1 with g1|g1<;>rcases List.mem_cons.1 h2 with g2|g2
            ·rw [g1,g2]
            ·exact (no _ g2 hpe2 (by rw [<-g1];exact hpe)).elim
            ·exact (no _ g1 hpe (by rw [<-g2];exact hpe2)).elim
            ·exact ih m h.2 hn.2 g1 g2
      exact congrArg _ (h1 es.toList m hm.eq hm.nd he'.1 he2)
     ·left;exact (hv.iff e2 he2 p2 hpe2).2 h
theorem r_entry {x:Operand} {b r clock:Nat} {es:Array MapEntry} {m:List (Int×Value)} {seen:Array Nat} {p:Int×Value} (hx:ev env x=some (.pointer (some ⟨r,0,none⟩))) (hb:w.heap[b]? =some (.map es clock))
    (hr:w.heap[r]? =some (.mapIter (some b) clock seen clock)) (hm:IntMap es clock m) (hl:Last es seen p):RunOp P env w (.entry x) (.tuple #[.int .i64 p.1,p.2]):=fun _ a o Z ho=>by
  obtain ⟨e,he,hbk,hpe⟩:=hl;have hkv:e.key= .int .i64 p.1/\e.val=p.2:=by simpa [entOf] using hpe
  have hf:es.find? (·.born==e.born)=some e:=by rw [<-Array.find?_toList];exact find_born e es.toList hm.born he
  have hrun:(Instr.entry (.pointer (some ⟨r,0,none⟩))).run P w= .ok (.tuple #[e.key,e.val]) w:=by simp [Instr.entry,run_getObj hr rfl,run_getObj hb rfl,hbk,hf]
  simp [execOp,ho,Z.eval hx,hrun,hkv.1,hkv.2]
end
section
variable {α:Type} {size:Nat} {R:Sto->List Value->α->Prop} {D D':Sto} {v:Value} {xs:List α} {s:Seg} {T:Nat}
def At (size:Nat) (R:Sto->List Value->α->Prop) (D:Sto) (cs:Array Value) (off:Nat) (xs:List α):Prop:=
  ∀i x,xs[i]? =some x-> ∃vs,vs.length=size/\R D vs x/\ ∀j u,vs[j]? =some u->cs[off+i*size+j]? =some u
def DR (size:Nat) (R:Sto->List Value->α->Prop) (D:Sto) (v:Value) (xs:List α):Prop:=
  ∃A c,v= .slice A xs.length c/\xs.length<=c/\(A=none->c=0)/\
    (xs≠ []-> ∃b off cs T fr,A=some ⟨b,off,none⟩/\D b=some (.cells cs T fr)/\At size R D cs off xs)
def OR (size:Nat) (R:Sto->List Value->α->Prop) (D:Sto) (T:Nat) (v:Value) (xs:List α) (s:Seg):Prop:=
  (v= .slice none 0 0/\xs= []/\s= [])\/ ∃g cap cur,v= .slice (some ⟨g,0,none⟩) xs.length cap/\s= [(g, .cells cur T (0,0))]/\xs.length<=cap/\cap<=maxLen/\cur.size=cap*size/\At size R D cur 0 xs
def Keeps (R:Sto->List Value->α->Prop):Prop:= ∀D D' vs x,Le D D'->R D vs x->R D' vs x
theorem At.mono (hR:Keeps R) {cs:Array Value} {off:Nat} (h:At size R D cs off xs) (hD:Le D D'):At size R D' cs off xs:=fun i x hx=>by
  obtain ⟨vs,h1,h2,h3⟩:=h i x hx;exact ⟨vs,h1,hR _ _ _ _ hD h2,h3⟩
theorem DR.mono (hR:Keeps R) (h:DR size R D v xs) (hD:Le D D'):DR size R D' v xs:=by obtain ⟨A,c,h1,h2,h3,h4⟩:=h;refine ⟨A,c,h1,h2,h3,fun hn=> ?_⟩;obtain ⟨b,off,cs,T,fr,h5,h6,h7⟩:=h4 hn;exact ⟨b,off,cs,T,fr,h5,hD _ _ h6,h7.mono hR hD⟩
theorem OR.mono (hR:Keeps R) (h:OR size R D T v xs s) (hD:Le D D'):OR size R D' T v xs s:=by
  rcases h with h|⟨g,cap,cur,h1,h2,h3,h4,h5,h6⟩
  ·exact .inl h
  ·exact .inr ⟨g,cap,cur,h1,h2,h3,h4,h5,h6.mono hR hD⟩
theorem DR.nil (size:Nat) (R:Sto->List Value->α->Prop) (D:Sto):DR size R D (.slice none 0 0) []:=⟨none,0,rfl,Nat.le_refl _,fun _=>rfl,fun h=>absurd rfl h⟩
theorem OR.nil (size:Nat) (R:Sto->List Value->α->Prop) (D:Sto) (T:Nat):OR size R D T (.slice none 0 0) [] []:= .inl ⟨rfl,rfl,rfl⟩
theorem DR.slice (h:DR size R D v xs): ∃A c,v= .slice A xs.length c/\xs.length<=c:=by obtain ⟨A,c,h1,h2,_,_⟩:=h;exact ⟨A,c,h1,h2⟩
theorem OR.slice (h:OR size R D T v xs s): ∃A c,v= .slice A xs.length c/\xs.length<=c:=by
  rcases h with ⟨h1,h2,h3⟩|⟨g,cap,cur,h1,h2,h3,h4,h5,h6⟩
  ·subst h2;exact ⟨none,0,h1,Nat.le_refl _⟩
  ·exact ⟨_,cap,h1,h3⟩
theorem DR.at_ {A:Option Addr} {n c:Nat} (h:DR size R D (.slice A n c) xs) (hn:xs≠ []) :
    ∃b off cs T fr,A=some ⟨b,off,none⟩/\D b=some (.cells cs T fr)/\At size R D cs off xs:=by
  obtain ⟨A',c',h1,h2,h3,h4⟩:=h;injection h1 with h1 _ _;subst h1
  exact h4 hn
theorem OR.shut (hR:Keeps R) (h:OR size R D T v xs s) (hD:Le D (Sto.put D s)):DR size R (Sto.put D s) v xs:=by
  rcases h with ⟨rfl,rfl,rfl⟩|⟨g,cap,cur,h1,h2,h3,h4,h5,h6⟩
  ·exact DR.nil _ _ _
  ·subst h2;exact ⟨_,cap,h1,h3,(fun h=>by cases h),fun hn=>⟨g,0,cur,T,(0,0),rfl,Sto.put_one _ _ _,h6.mono hR hD⟩⟩
theorem OR.row (h:OR size R D T v xs s): ∃ys,Row T size v xs.length ys s/\ ∀cs:List Value,At size R D (ys++cs).toArray 0 xs:=by
  rcases h with ⟨rfl,rfl,rfl⟩|⟨g,cap,cur,h1,h2,h3,h4,h5,h6⟩
  ·exact ⟨[],Row.nil T size,fun cs i x hx=>by simp at hx⟩
  ·have hle:xs.length*size<=cur.toList.length:=by
     have h7:cur.toList.length=cur.size:=Array.length_toList;rw [h7,h5];exact Nat.mul_le_mul_right _ h3
   refine ⟨cur.toList.take (xs.length*size),⟨by rw [List.length_take];omega, .inr ⟨g,cap,cur,h1,h2,h3,h4,h5,rfl⟩⟩,fun cs i x hx=> ?_⟩;obtain ⟨vs,k1,k2,k3⟩:=h6 i x hx;refine ⟨vs,k1,k2,fun j u hu=> ?_⟩;have hi:=(List.getElem?_eq_some_iff.1 hx).1;have hj:=(List.getElem?_eq_some_iff.1 hu).1;have h7:i*size+size<=xs.length*size:=by have:=Nat.mul_le_mul_right size (show i+1<=xs.length by omega);rw [Nat.add_mul,Nat.one_mul] at this;exact this
   have h8:=k3 j u hu;simp only [Nat.zero_add] at h8 ⊢;rw [List.getElem?_toArray,List.getElem?_append_left (by rw [List.length_take];omega),List.getElem?_take_of_lt (by omega),Array.getElem?_toList];exact h8
theorem OR.ofRow {n:Nat} {ys:List Value} (h:Row T size v n ys s) (hn:n=xs.length) (ha: ∀cs:List Value,At size R D (ys++cs).toArray 0 xs):OR size R D T v xs s:=by
  subst hn;rcases h.at_ with ⟨h1,h2,h3⟩|⟨g,cap,cur,h1,h2,h3,h4,h5,h6⟩
  ·exact .inl ⟨h1,List.length_eq_zero_iff.1 h2,h3⟩
  ·refine .inr ⟨g,cap,cur,h1,h2,h3,h4,h5, ?_⟩;have:=ha (cur.toList.drop (xs.length*size));rw [<-h6,List.take_append_drop] at this;simpa using this
theorem At.snoc {ys vs:List Value} {x:α} (h: ∀cs:List Value,At size R D (ys++cs).toArray 0 xs) (hl:ys.length=xs.length*size) (hv:vs.length=size) (hx:R D vs x) :
    ∀cs:List Value,At size R D (ys++vs++cs).toArray 0 (xs++ [x]):=fun cs i y hy=>by
  by_cases hi:i<xs.length
  ·rw [List.getElem?_append_left hi] at hy;have:=h (vs++cs) i y hy;rwa [<-List.append_assoc] at this
  ·have hi':i=xs.length:=by
     have:=(List.getElem?_eq_some_iff.1 hy).1;simp at this;omega
   subst hi';have hxy:x=y:=by simpa using hy
   subst hxy;refine ⟨vs,hv,hx,fun j u hu=> ?_⟩;have hj:=(List.getElem?_eq_some_iff.1 hu).1;rw [List.getElem?_toArray,List.append_assoc,List.getElem?_append_right (by omega),List.getElem?_append_left (by omega)];rw [show 0+xs.length*size+j - ys.length=j by omega];exact hu
end
theorem getElem?_splice: ∀(vs:List Value) (cs:Array Value) (off p:Nat),off+vs.length<=cs.size->(splice cs off vs)[p]? =if off<=p/\p<off+vs.length then vs[p - off]? else cs[p]?
  | [],cs,off,p,h=>by
    rw [if_neg (by simp)];rfl
  |v::r,cs,off,p,h=>by
    simp only [List.length_cons] at h ⊢;simp only [splice];rw [getElem?_splice r _ _ _ (by simp;omega)];by_cases h1:off+1<=p/\p<off+1+r.length
    ·rw [if_pos h1,if_pos (by omega),show p - off=(p - (off+1))+1 by omega,List.getElem?_cons_succ]
    ·rw [if_neg h1];by_cases h2:p=off
     ·subst h2;rw [if_pos (by omega)];simp [Array.getElem?_setIfInBounds_self_of_lt (show p<cs.size by omega)]
     ·rw [if_neg (by omega),Array.getElem?_setIfInBounds_ne (by omega)]
section
variable {P:Program} {ops:Array Oper} {Q:Exit->Act->World->Prop} {a:Act} {w0 w w':World} {D:Sto} {ss:List Seg} {rest:List Oper} {o:Oper} {N:Nat} {env:Env} {K:Act->World->Prop}
theorem p_cap {t:TypeId} {e:TypeId} {x:Operand} {A:Option Addr} {n c:Nat} {ts:Array TypeId} (hx:ev env x=some (.slice A n c)) (hts:ts[0]? =some t) (ht:P.underlying t=some (.slice e)) :
    PureOp P env (.call {callee:= .builtin .cap,args:= #[x],argTypes:=ts}) (.int .i64 c):=fun _ a w o Z ho=>by
  have h1:=Z.eval hx;simp [execOp,ho,resolve,h1,invoke,builtin,Builtin.cap_,hts,underlying,program,ht,Sem.run,goInt]
theorem p_min {x y:Operand} {k k':IntKind} {m n z:Int} {ts:Array TypeId} (hx:ev env x=some (.int k m)) (hy:ev env y=some (.int k' n)) (hz:min m n=z) :
    PureOp P env (.call {callee:= .builtin .min,args:= #[x,y],argTypes:=ts}) (.int k z):=fun _ a w o Z ho=>by
  have h1:=Z.eval hx;have h2:=Z.eval hy;have:(if n<m then n else m)=z:=by rw [<-hz];simp only [Int.min_def];split<;>split<;>omega
  simp [execOp,ho,resolve,h1,h2,invoke,builtin,Builtin.min_,Builtin.min2,Sem.run,this]
theorem p_max {x y:Operand} {k k':IntKind} {m n z:Int} {ts:Array TypeId} (hx:ev env x=some (.int k m)) (hy:ev env y=some (.int k' n)) (hz:max m n=z) :
    PureOp P env (.call {callee:= .builtin .max,args:= #[x,y],argTypes:=ts}) (.int k z):=fun _ a w o Z ho=>by
  have h1:=Z.eval hx;have h2:=Z.eval hy;have:(if m<n then n else m)=z:=by rw [<-hz];simp only [Int.max_def];split<;>split<;>omega
  simp [execOp,ho,resolve,h1,h2,invoke,builtin,Builtin.max_,Builtin.max2,Sem.run,this]
theorem r_extern {f:FuncId} {xs:Array Operand} {ts:Array TypeId} {vs:Array Value} {v:Value} {fn:Func} {e:Array Value->Sem Value} (hv:xs.toList.map (ev env)=vs.toList.map some)
    (hf:P.funcs[f]? =some fn) (hname:(fn.name== "runtime.NumGoroutine")=false) (hb:fn.body.isNone=true) (hn:Extern.findNext fn=none) (he:Extern.find fn=some e)
    (hr:(e vs).run P w= .ok v w):RunOp P env w (.call {callee:= .value (.func f),args:=xs,argTypes:=ts}) v:=fun _ a o Z ho=>by
  have hargs:=args_of Z hv;have h1:=run_callFunc_extern (P:=P) hf hname hb hn he vs w;rw [hr] at h1;simp [execOp,ho,resolve,Act.eval,Deferred.ofValue,invoke,hargs,h1,Result.andThen]
theorem size_of {e size:Nat} (h:(P.info? e).map (·.size)=some size): ∀w,(sizeOf e).run P w= .ok size w:=fun w=>by
  obtain ⟨i,hi,rfl⟩:=Option.map_eq_some_iff.1 h;simp [sizeOf,typeInfo,hi]
theorem o_copy {x y:Operand} {t t' e size g off dn dc sn sc d T:Nat} {ad:Addr} {news:List Value} {cur:Array Value} (j:Nat) (Z:EnvOk N env a) (I:Inv w0 D ss w) (hd:o.dst=some d) (hN:Nat.blt d N=true)
    (ho:o.op= .call {callee:= .builtin .copy,args:= #[x,y],argTypes:= #[t,t']}) (hx:ev env x=some (.slice (some ⟨g,off,none⟩) dn dc)) (hy:ev env y=some (.slice (some ad) sn sc)) (ht:P.underlying t=some (.slice e))
    (hs:(P.info? e).map (·.size)=some size) (hj:ss[j]? =some [(g, .cells cur T (0,0))]) (hl:news.length=Nat.min sn dn*size) (hnews: ∀j u,news[j]? =some u->w.cell? (ad.add j)=some u) (h1: ∀u∈news,u.oneCell'=true) (hfit:off+news.length<=cur.size)
    (k: ∀w',Inv w0 D (ss.set j [(g, .cells (splice cur off news) T (0,0))]) w'-> ∀a',EnvOk N ((d, .int .i64 (Nat.min sn dn:Nat))::env) a'->K a' w'):o.wp P a w K Q:=by
  have hb:=I.seg j hj;have hld:=run_loadCells_list (P:=P) w ad news hnews;have hst:=run_storeCells_off (P:=P) news off 0 cur w hb (by omega) h1;simp only [Nat.add_zero] at hst;have hrun:(execOp a.eval o).run P w= .ok (.value (.int .i64 (Nat.min sn dn:Nat))) {w with heap:=w.heap.setIfInBounds g (.cells (splice cur off news) T (0,0))}:=by simp only [execOp,ho,resolve,invoke,builtin,Sem.run_bind,Sem.run_pure,Result.andThen_ok,List.map_toArray,List.map_cons,List.map_nil,Z.eval hx,Z.eval hy];simp [Builtin.copy_,run_underlying ht,Builtin.lenOf,Builtin.firstCells,size_of hs,<-hl,hld,hst,goInt]
  refine o_val hrun (by rw [hd];exact k _ (I.turn_at j hj) _ (Z.put hN _))
theorem size_zeroCells' (z:Array Value) (n:Nat):(Builtin.zeroCells z n).size=n*z.size:=by simp [Builtin.zeroCells]
theorem o_appendZ {x y:Operand} {t tn e size bytes g n m c d T:Nat} {kn kq:IntKind} {z:Value} {cur:Array Value} (j:Nat) (Z:EnvOk N env a) (I:Inv w0 D ss w) (hd:o.dst=some d) (hN:Nat.blt d N=true)
    (ho:o.op= .call {callee:= .builtin .append,args:= #[x,y],argTypes:= #[t,tn]}) (hx:ev env x=some (.slice (some ⟨g,0,none⟩) n c)) (hy:ev env y=some (.int kq (m:Nat))) (ht:P.underlying t=some (.slice e)) (htn:P.underlying tn=some (.int kn))
    (hinfo:(P.info? e).map (fun i=>(i.zero,i.size,i.bytes))=some (some z,size,bytes)) (hzs:z.cells.size=size) (hsz:0<size) (hj:ss[j]? =some [(g, .cells cur T (0,0))]) (hn:n*size<=cur.size) (hm:0<m) (hg:c<n+m) (h63:n+m<=9223372036854775807) (hb:(n+m)*bytes<=140737488355328)
    (k: ∀g' cap' cur' w',n+m<=cap'->cap'<=maxLen->cur'.size=cap'*size->(∀p,p<n*size->cur'[p]? =cur[p]?)->Inv w0 D ([(g', .cells cur' e (0,0))]::ss) w'-> ∀a',EnvOk N ((d, .slice (some ⟨g',0,none⟩) (n+m) cap')::env) a'->K a' w'):o.wp P a w K Q:=by
  obtain ⟨inf,hi0,hzz⟩:=Option.map_eq_some_iff.1 hinfo;simp only [Prod.mk.injEq] at hzz;obtain ⟨hz,rfl,rfl⟩:=hzz;have hcell:=I.seg j hj;have holds: ∀i v,(cur.toList.take (n*inf.size))[i]? =some v->w.cell? ((⟨g,0,none⟩:Addr).add i)=some v:=fun i v hv=>by
    rw [addr_add,cell_of hcell,<-Array.getElem?_toList];rw [List.getElem?_take] at hv;split at hv
    ·simpa using hv
    ·cases hv
  have hlen:(cur.toList.take (n*inf.size)).length=n*inf.size:=by have:cur.toList.length=cur.size:=Array.length_toList;rw [List.length_take];omega
  have hold:(Builtin.firstCells inf.size n (.slice (some ⟨g,0,none⟩) n c)).run P w.drew= .ok (cur.toList.take (n*inf.size)).toArray w.drew:=by have h2:=run_loadCells_list (P:=P) w.drew ⟨g,0,none⟩ (cur.toList.take (n*inf.size)) (fun i v hv=>holds i v hv);rw [hlen] at h2;exact h2
  have hr:=Lib.run_append_grow_zeros (P:=P) w t tn o.type e inf z kq kn ht htn hi0 hz (some ⟨g,0,none⟩) n c _ hold m hm hsz hg (by omega) (by
      have:=Nat.mul_le_mul_right inf.bytes (show m<=n+m by omega);omega) (growslice_fits (by omega) hb)
  obtain ⟨G,hG⟩: ∃G,G=grownCap w (n+m) c e:=⟨_,rfl⟩;have hge:=grownCap_ge w (n+m) c e;have hcm:=grownCap_le_maxLen w (n+m) c e (by simpa [maxLen] using h63);rw [<-hG] at hr hge hcm;obtain ⟨R,hR⟩: ∃R,R=((cur.toList.take (n*inf.size)).toArray++Builtin.zeroCells z.cells m++Builtin.zeroCells z.cells (G - (n+m)):Array Value):=⟨_,rfl⟩;rw [<-hR] at hr;have hrun:(execOp a.eval o).run P w= .ok (.value (.slice (some ⟨w.heap.size,0,none⟩) (n+m) G)) (w.drew.alloc (.cells R e)):=by simp only [execOp,ho,resolve,invoke,builtin,Sem.run_bind,Sem.run_pure,Result.andThen_ok,List.map_toArray,List.map_cons,List.map_nil,Z.eval hx,Z.eval hy,hr]
  have hI':Inv w0 D ([(w.heap.size, .cells R e (0,0))]::ss) (w.drew.alloc (.cells R e)):=(Inv.drawn I w.drew.drawn).new (.cells R e (0,0));have hRs:R.size=G*inf.size:=by
    rw [hR];have h3:(cur.toList.take (n*inf.size)).toArray.size=n*inf.size:=by simpa using hlen
    rw [Array.size_append,Array.size_append,size_zeroCells',size_zeroCells',hzs,h3,<-Nat.add_mul,<-Nat.add_mul];congr 1;omega
  have hcur: ∀p,p<n*inf.size->R[p]? =cur[p]? :=fun p hp=>by
    have h3:(cur.toList.take (n*inf.size)).toArray.size=n*inf.size:=by simpa using hlen
    have h5:p<(cur.toList.take (n*inf.size)).toArray.size:=by rw [h3];exact hp
    rw [hR,Array.append_assoc,Array.getElem?_append_left h5];show ((cur.toList.take (n*inf.size)).toArray)[p]? =cur[p]?;rw [List.getElem?_toArray,List.getElem?_take_of_lt hp,Array.getElem?_toList]
  exact o_val hrun (by rw [hd];exact k _ G R _ hge hcm hRs hcur hI' _ (Z.put hN _))
end
section
variable {α:Type} {size:Nat} {R:Sto->List Value->α->Prop} {D D':Sto} {v:Value} {xs:List α} {s:Seg} {T:Nat}
theorem mul_le_of_lt {i n size:Nat} (h:i<n):i*size+size<=n*size:=by have:=Nat.mul_le_mul_right size (show i+1<=n by omega);rw [Nat.add_mul,Nat.one_mul] at this;exact this
theorem At.insert {cur C:Array Value} {i:Nat} {vs:List Value} {x:α} (h:At size R D cur 0 xs) (hi:i<=xs.length) (hv:vs.length=size) (hx:R D vs x)
    (h1: ∀p,p<i*size->C[p]? =cur[p]?) (h2: ∀j u,vs[j]? =some u->C[i*size+j]? =some u) (h3: ∀p,i*size<=p->p<xs.length*size->C[p+size]? =cur[p]?):At size R D C 0 (xs.insertIdx i x):=fun q y hy=>by
  rw [List.getElem?_insertIdx] at hy;split at hy
  ·rename_i hq;obtain ⟨us,k1,k2,k3⟩:=h q y hy;refine ⟨us,k1,k2,fun j u hu=> ?_⟩;have hj:=(List.getElem?_eq_some_iff.1 hu).1;have:=mul_le_of_lt (size:=size) hq;have h4:=k3 j u hu;rw [Nat.zero_add] at h4 ⊢;rw [h1 _ (by omega)];exact h4
  ·rename_i hq;split at hy
   ·rename_i hq2;subst hq2;have hxy:x=y:=by
      rw [if_pos hi] at hy;exact Option.some.inj hy
    subst hxy;exact ⟨vs,hv,hx,fun j u hu=>by rw [Nat.zero_add];exact h2 j u hu⟩
   ·rename_i hq2;obtain ⟨us,k1,k2,k3⟩:=h (q - 1) y hy;refine ⟨us,k1,k2,fun j u hu=> ?_⟩;have hj:=(List.getElem?_eq_some_iff.1 hu).1;have hql:=(List.getElem?_eq_some_iff.1 hy).1;have h4:=k3 j u hu;have h5:=mul_le_of_lt (size:=size) hql;have h6:=Nat.mul_le_mul_right size (show i<=q - 1 by omega);have h7:q*size=(q - 1)*size+size:=by
      obtain ⟨r,rfl⟩: ∃r,q=r+1:=⟨q - 1,by omega⟩;rw [Nat.add_mul,Nat.one_mul];rfl
    rw [Nat.zero_add] at h4 ⊢;rw [h7,show (q - 1)*size+size+j=(q - 1)*size+j+size by omega,h3 _ (by omega) (by omega)];exact h4
theorem At.modify {cur C:Array Value} {i:Nat} {f:α->α} (h:At size R D cur 0 xs)
    (h1: ∀p,p<i*size\/i*size+size<=p->C[p]? =cur[p]?) (h2: ∀x,xs[i]? =some x-> ∃vs,vs.length=size/\R D vs (f x)/\ ∀j u,vs[j]? =some u->C[i*size+j]? =some u):At size R D C 0 (xs.modify i f):=fun q y hy=>by
  rw [List.getElem?_modify] at hy;by_cases hq:i=q
  ·subst hq;simp only [if_true] at hy;cases hx:xs[i]? with
   |none=>rw [hx] at hy;cases hy
   |some x=>
     rw [hx] at hy;have:f x=y:=by simpa using hy
     subst this;obtain ⟨vs,k1,k2,k3⟩:=h2 x hx;exact ⟨vs,k1,k2,fun j u hu=>by rw [Nat.zero_add];exact k3 j u hu⟩
  ·have hy':xs[q]? =some y:=by
     cases hx:xs[q]? with
     |none=>rw [hx] at hy;cases hy
     |some x=>rw [hx] at hy;simpa [hq] using hy
   obtain ⟨us,k1,k2,k3⟩:=h q y hy';refine ⟨us,k1,k2,fun j u hu=> ?_⟩;have hj:=(List.getElem?_eq_some_iff.1 hu).1;have h4:=k3 j u hu;rw [Nat.zero_add] at h4 ⊢;rw [h1 _ ?_]
   ·exact h4
   ·rcases Nat.lt_or_gt_of_ne hq with hlt|hlt
    ·right;have:=mul_le_of_lt (size:=size) hlt;omega
    ·left;have:=mul_le_of_lt (size:=size) hlt;omega
theorem OR.some {A:Addr} {n c:Nat} (h:OR size R D T (.slice (Option.some A) n c) xs s): ∃g cur,A=⟨g,0,none⟩/\n=xs.length/\s= [(g, .cells cur T (0,0))]/\xs.length<=c/\c<=maxLen/\cur.size=c*size/\At size R D cur 0 xs:=by
  rcases h with ⟨h1,h2,h3⟩|⟨g,cap,cur,h1,h2,h3,h4,h5,h6⟩
  ·cases h1
  ·injection h1 with h1 hn hc
   injection h1 with h1
   subst hc;exact ⟨g,cur,h1,hn,h2,h3,h4,h5,h6⟩
theorem OR.none {n c:Nat} (h:OR size R D T (.slice Option.none n c) xs s):xs= []/\n=0/\c=0/\s= []:=by
  rcases h with ⟨h1,h2,h3⟩|⟨g,cap,cur,h1,h2,h3,h4,h5,h6⟩
  ·injection h1 with _ hn hc;exact ⟨h2,hn,hc,h3⟩
  ·cases h1
theorem OR.ofAt {g cap n:Nat} {cur:Array Value} (hn:n=xs.length) (hle:xs.length<=cap) (hc:cap<=maxLen) (hs:cur.size=cap*size) (h:At size R D cur 0 xs):OR size R D T (.slice (Option.some ⟨g,0,Option.none⟩) n cap) xs [(g, .cells cur T (0,0))]:=by subst hn;exact Or.inr ⟨g,cap,cur,rfl,rfl,hle,hc,hs,h⟩
theorem At.extract {cs:Array Value} {off i:Nat} {x:α} (h:At size R D cs off xs) (hx:xs[i]? =Option.some x) (hs:0<size): ∃vs,vs.length=size/\R D vs x/\cs.extract (off+i*size) (off+i*size+size)=vs.toArray/\off+i*size+size<=cs.size/\ ∀j u,vs[j]? =Option.some u->cs[off+i*size+j]? =Option.some u:=by
  obtain ⟨vs,k1,k2,k3⟩:=h i x hx;have hsz:off+i*size+size<=cs.size:=by have h1:vs[size - 1]? =Option.some vs[size - 1]:=List.getElem?_eq_getElem (by omega);have:=(Array.getElem?_eq_some_iff.1 (k3 _ _ h1)).1;omega
  refine ⟨vs,k1,k2, ?_,hsz,k3⟩;apply Array.ext_getElem?;intro j;have h9:vs.toArray[j]? =vs[j]? :=List.getElem?_toArray;rw [Array.getElem?_extract,h9];by_cases hj:j<size
  ·have h2:vs[j]? =Option.some vs[j]:=List.getElem?_eq_getElem (by omega);rw [h2,if_pos (by omega)];exact k3 _ _ h2
  ·rw [if_neg (by omega),List.getElem?_eq_none (by omega)]
end
section
variable {α:Type} {size:Nat} {R:Sto->List Value->α->Prop} {P:Program} {ops:Array Oper} {Q:Exit->Act->World->Prop} {a:Act} {w0 w w':World} {D:Sto} {ss:List Seg} {rest:List Oper} {o:Oper} {N:Nat} {env:Env} {K:Act->World->Prop}
theorem o_appendOR {x y:Operand} {t e bytes d b T:Nat} {z v:Value} {xs:List α} {s:Seg} {el:α} {cs:Array Value} (i j:Nat) (Z:EnvOk N env a) (I:Inv w0 D ss w) (hd:o.dst=some d) (hN:Nat.blt d N=true)
    (ho:o.op= .call {callee:= .builtin .append,args:= #[x,y],argTypes:= #[t,t]}) (hx:ev env x=some v) (hy:ev env y=some (.slice (some ⟨b,0,none⟩) 1 1)) (ht:P.underlying t=some (.slice e))
    (hinfo:(P.info? e).map (fun i=>(i.zero,i.size,i.bytes))=some (some z,size,bytes)) (hz:z.cells.size=size) (hsz:Nat.blt 0 size=true) (hi:ss[i]? =some s) (hO:OR size R D e v xs s)
    (hj:ss[j]? =some [(b, .cells cs T (0,0))]) (hcs:cs.toList.length=size) (hR:R D cs.toList el) (h1: ∀u∈cs.toList,u.oneCell'=true) (hb:(xs.length+1)*bytes<=140737488355328) (hm:xs.length+1<=9223372036854775807)
    (k: ∀v' s' w',OR size R D e v' (xs++ [el]) s'->Inv w0 D (ss.set i s') w'-> ∀a',EnvOk N ((d,v')::env) a'->K a' w'):o.wp P a w K Q:=by
  obtain ⟨ys,hrow,hat⟩:=hO.row;have hc:=I.seg j hj;refine o_append (n:=xs.length) (news:=cs.toList) i Z I hd hN ho hx hy ht hinfo hz hsz hi hrow (by rw [hcs,Nat.one_mul]) (fun q u hq=>lit_news hc q u hq) h1 hb hm ?_;intro v' s' w' hR' hI' a' hE';exact k v' s' w' (OR.ofRow hR' (by simp) (At.snoc hat hrow.len hcs hR)) hI' a' hE'
end
section
variable {P:Program} {ops:Array Oper} {Q:Exit->Act->World->Prop} {a:Act} {w:World} {rest:List Oper} {o:Oper} {N:Nat} {env:Env} {S:World->Prop} {br:List Nat} {listed listed':Array Bool} {n:Nat}
theorem nl {p:Prop} (h:false=true):p:=Bool.noConfusion h
theorem zs {d:Nat} {v:Value} (Z:EnvOk N env a) (hp:PureOp P env o.op v) (k: ∀a',EnvOk N ((d,v)::env) a'->wpList P ops Q rest a' w) (hg:o.guard=none:=by exact rfl) (hd:o.dst=some d:=by exact rfl) (hN:Nat.blt d N=true:=by exact rfl):wpList P ops Q (o::rest) a w:=l_step hg (o_pure Z hd hN hp.run k)
theorem zl {d:Nat} {v:Value} (Z:EnvOk N env a) (hp:RunOp P env w o.op v) (k: ∀a',EnvOk N ((d,v)::env) a'->wpList P ops Q rest a' w) (hg:o.guard=none:=by exact rfl) (hd:o.dst=some d:=by exact rfl) (hN:Nat.blt d N=true:=by exact rfl):wpList P ops Q (o::rest) a w:=l_step hg (o_pure Z hd hN hp k)
theorem zm {x:Operand} {d:Nat} {v:Value} (Z:EnvOk N env a) (k: ∀a',EnvOk N ((d,v)::env) a'->wpList P ops Q rest a' w) (ho:o.op= .move x:=by exact rfl) (hx:ev env x=some v:=by exact rfl) (hg:o.guard=none:=by exact rfl) (hd:o.dst=some d:=by exact rfl) (hN:Nat.blt d N=true:=by exact rfl):wpList P ops Q (o::rest) a w:=zs Z (by rw [ho];exact p_move hx) k hg hd hN
theorem za {x:Operand} {d:Nat} {v:Value} (Z:EnvOk N env a) (k: ∀a',EnvOk N ((d,v)::env) a'->wpList P ops Q rest a' w) (ho:o.op= .assign x:=by exact rfl) (hx:ev env x=some v:=by exact rfl) (hg:o.guard=none:=by exact rfl) (hd:o.dst=some d:=by exact rfl) (hN:Nat.blt d N=true:=by exact rfl):wpList P ops Q (o::rest) a w:=zs Z (by rw [ho];exact p_assign hx) k hg hd hN
theorem zx {x:Operand} {i:Nat} {vs:Array Value} {d:Nat} {v:Value} (Z:EnvOk N env a) (k: ∀a',EnvOk N ((d,v)::env) a'->wpList P ops Q rest a' w) (ho:o.op= .extract x i:=by exact rfl) (hx:ev env x=some (.tuple vs):=by exact rfl) (hv:getL vs.toList i=some v:=by exact rfl) (hg:o.guard=none:=by exact rfl) (hd:o.dst=some d:=by exact rfl) (hN:Nat.blt d N=true:=by exact rfl):wpList P ops Q (o::rest) a w:=zs Z (by rw [ho];exact f_extract hx hv) k hg hd hN
theorem zk {d:Nat} (Z:EnvOk N env a) (k: ∀a',EnvOk N ((d,undef)::env) a'->wpList P ops Q rest a' w) (hw:wantedE ops env o=some false:=by exact rfl) (hd:o.dst=some d:=by exact rfl) (hN:Nat.blt d N=true:=by exact rfl):wpList P ops Q (o::rest) a w:=l_skip Z hw hd hN k
theorem gs {d:Nat} {v:Value} (Z:EnvOk N env a) (hp:PureOp P env o.op v) (k: ∀a',EnvOk N ((d,v)::env) a'->wpList P ops Q rest a' w) (hw:wantedE ops env o=some true:=by exact rfl) (hd:o.dst=some d:=by exact rfl) (hN:Nat.blt d N=true:=by exact rfl):wpList P ops Q (o::rest) a w:=l_go Z hw (o_pure Z hd hN hp.run k)
theorem gl {d:Nat} {v:Value} (Z:EnvOk N env a) (hp:RunOp P env w o.op v) (k: ∀a',EnvOk N ((d,v)::env) a'->wpList P ops Q rest a' w) (hw:wantedE ops env o=some true:=by exact rfl) (hd:o.dst=some d:=by exact rfl) (hN:Nat.blt d N=true:=by exact rfl):wpList P ops Q (o::rest) a w:=l_go Z hw (o_pure Z hd hN hp k)
theorem dp {d:Nat} {v:Value} (i:Nat) (Z:EnvOk N env a) (hi:ops[i]? =some o) (hp:PureOp P env o.op v) (hS:live br listed=true->S w) (k: ∀a',EnvOk N ((d,v)::env) a'->Ord P ops Q br S n listed' a' w)
    (hs:Region.noSelect ops=true:=by kernel_rfl) (hf:Region.free .any ops listed i=true:=by kernel_rfl) (hr:(Region.ready .any ops listed).contains i=true:=by kernel_rfl) (hbi:br.contains i=false:=by exact rfl)
    (hQ: ∀c a w,Q (.panic c) (a.put o.dst v) w->Q (.panic c) a w:=by exact fun _ _ _ h=>h) (hw:wantedE ops env o=some true:=by exact rfl) (hd:o.dst=some d:=by exact rfl) (hN:Nat.blt d N=true:=by exact rfl) (hl:listed.setIfInBounds i true=listed':=by first|(simp only [List.setIfInBounds_toArray,List.set_cons_zero,List.set_cons_succ];exact rfl)|exact rfl) :
    Ord P ops Q br S (n+1) listed a w:=d_pure i Z hi hs hf hr hbi hQ hw hd hN hp hS hl k
theorem dl {d:Nat} {v:Value} (i:Nat) (Z:EnvOk N env a) (hi:ops[i]? =some o) (hp: ∀w,S w->RunOp P env w o.op v) (hS:S w) (k: ∀a',EnvOk N ((d,v)::env) a'->Ord P ops Q br S n listed' a' w)
    (hs:Region.noSelect ops=true:=by kernel_rfl) (hf:Region.free .any ops listed i=true:=by kernel_rfl) (hr:(Region.ready .any ops listed).contains i=true:=by kernel_rfl) (hwait:waits ops br i=true:=by kernel_rfl) (hcl:closedB ops listed=true:=by kernel_rfl) (hbi:br.contains i=false:=by exact rfl) (hlive:live br listed=true:=by exact rfl)
    (hQ: ∀c a w,Q (.panic c) (a.put o.dst v) w->Q (.panic c) a w:=by exact fun _ _ _ h=>h) (hw:wantedE ops env o=some true:=by exact rfl) (hd:o.dst=some d:=by exact rfl) (hN:Nat.blt d N=true:=by exact rfl) (hl:listed.setIfInBounds i true=listed':=by first|(simp only [List.setIfInBounds_toArray,List.set_cons_zero,List.set_cons_succ];exact rfl)|exact rfl) :
    Ord P ops Q br S (n+1) listed a w:=d_load i Z hi hs hf hr hwait hcl hbi hlive hQ hw hd hN hp hS hl k
theorem do1 (i:Nat) (Z:EnvOk N env a) (hi:ops[i]? =some o) (h:o.wp P a w (fun a' w'=>(live br listed'=true->S w')/\Ord P ops Q br S n listed' a' w') Q)
    (hr:Region.ready .any ops listed= [i]:=by kernel_rfl) (hw:wantedE ops env o=some true:=by exact rfl) (hl:listed.setIfInBounds i true=listed':=by first|(simp only [List.setIfInBounds_toArray,List.set_cons_zero,List.set_cons_succ];exact rfl)|exact rfl):Ord P ops Q br S (n+1) listed a w:=d_one i Z hi hr hw hl h
theorem dnx (h:Q .normal a w) (hr:Region.ready .any ops listed= []:=by kernel_rfl):Ord P ops Q br S n listed a w:=d_done hr h
theorem cmx {op:BinOp} {t t':TypeId} {x y:Operand} {k:IntKind} {m n:Int} {d:Nat} (Z:EnvOk N env a) (kt:cmpB op m n=some true-> ∀a',EnvOk N ((d, .bool true)::env) a'->wpList P ops Q rest a' w) (kf:cmpB op m n=some false-> ∀a',EnvOk N ((d, .bool false)::env) a'->wpList P ops Q rest a' w)
    (hg:o.guard=none:=by exact rfl) (hd:o.dst=some d:=by exact rfl) (hN:Nat.blt d N=true:=by exact rfl) (ho:o.op= .binOp op t x y t':=by exact rfl) (hx:ev env x=some (.int k m):=by exact rfl) (hy:ev env y=some (.int k n):=by exact rfl) (hop:(cmpB op 0 0).isSome=true:=by exact rfl):wpList P ops Q (o::rest) a w:=l_step hg (o_cmp Z hd hN ho hx hy hop kt kf)
theorem cgx {op:BinOp} {t t':TypeId} {x y:Operand} {k:IntKind} {m n:Int} {d:Nat} (Z:EnvOk N env a) (kt:cmpB op m n=some true-> ∀a',EnvOk N ((d, .bool true)::env) a'->wpList P ops Q rest a' w) (kf:cmpB op m n=some false-> ∀a',EnvOk N ((d, .bool false)::env) a'->wpList P ops Q rest a' w)
    (hw:wantedE ops env o=some true:=by exact rfl) (hd:o.dst=some d:=by exact rfl) (hN:Nat.blt d N=true:=by exact rfl) (ho:o.op= .binOp op t x y t':=by exact rfl) (hx:ev env x=some (.int k m):=by exact rfl) (hy:ev env y=some (.int k n):=by exact rfl) (hop:(cmpB op 0 0).isSome=true:=by exact rfl):wpList P ops Q (o::rest) a w:=l_go Z hw (o_cmp Z hd hN ho hx hy hop kt kf)
theorem rt1 {fn:Func} {R:Value->World->Prop} {t:Nat} {v:Value} (Z:EnvOk N env a) (h:R v w) (hr:fn.results= #[.tmp t]:=by exact rfl) (hv:look env t=some v:=by exact rfl):bodyPost P fn (Ret R) .ret a w:=ret1 hr Z hv h
end
theorem nrm:(∀(cs:Array Value) (i:Nat),splice cs i []=cs)/\(∀(cs:Array Value) (i:Nat) (v:Value) (r:List Value),splice cs i (v::r)=splice (cs.setIfInBounds i v) (i+1) r)
    /\(∀(α:Type) (x:α) (l:List α),insAt 0 x l=x::l)/\(∀(α:Type) (i:Nat) (x:α),insAt (i+1) x []= [x])/\(∀(α:Type) (i:Nat) (x y:α) (r:List α),insAt (i+1) x (y::r)=y::insAt i x r)
    /\(∀(α:Type) (a x:α) (l:List α),(a::l).set 0 x=x::l)/\(∀(α:Type) (a x:α) (l:List α) (n:Nat),(a::l).set (n+1) x=a::l.set n x)/\(∀(α:Type) (a:α) (l:List α) (i:Nat),l.toArray.setIfInBounds i a=(l.set i a).toArray)
    /\(∀(α:Type) (a:α) (l:List α),(a::l).eraseIdx 0=l)/\(∀(α:Type) (a:α) (l:List α) (i:Nat),(a::l).eraseIdx (i+1)=a::l.eraseIdx i)/\(∀(α:Type) (a:α) (l:List α),(a::l).tail=l)
    /\(∀(α:Type) (a:α) (l:List α),(a::l)[0]? =some a)/\(∀(α:Type) (a:α) (l:List α) (i:Nat),(a::l)[i+1]? =l[i]?):=
  ⟨fun _ _=>rfl,fun _ _ _ _=>rfl,fun _ _ _=>rfl,fun _ _ _=>rfl,fun _ _ _ _ _=>rfl,fun _ _ _ _=>rfl,fun _ _ _ _ _=>rfl,fun _ _ _ _=>by simp,fun _ _ _=>rfl,fun _ _ _ _=>rfl,fun _ _ _=>rfl,fun _ _ _=>rfl,fun _ _ _ _=>rfl⟩
inductive Fuel:Nat->Prop
  |mk (n:Nat):Fuel n
theorem Fuel.less {n:Nat} (_:Fuel (n+1)):Fuel n:= .mk n
class CSc (P:Program) (t:TypeId):Prop where h:isScal P t=true
class CAg (P:Program) (t:TypeId) (n:outParam Nat):Prop where h:aggSize P t=some n
class CFo (P:Program) (s f:Nat) (n:outParam Nat):Prop where h:fieldOff P s f=some n
class CIf (P:Program) (t:TypeId):Prop where h: ∃ms,P.underlying t=some (.interface ms)
class CEn (P:Program) (f:FuncId):Prop where h:enters P f=true
section
variable {P:Program} {ops:Array Oper} {Q:Exit->Act->World->Prop} {a:Act} {w0 w:World} {D:Sto} {ss:List Seg} {rest:List Oper} {o:Oper} {N:Nat} {env:Env}
theorem yi {op:BinOp} {t t':TypeId} {x:Operand} {u:Value} {e b:Bool} {d:Nat} (Z:EnvOk N env a) (ho:o.op= .binOp op t x (.const .nilIface) t') (hx:ev env x=some u) (hu:nilI u=some e) (hb:eqB op e=some b) (hw:wantedE ops env o=some true) (hd:o.dst=some d) (hN:Nat.blt d N=true) [c:CIf P t] (k: ∀a',EnvOk N ((d, .bool b)::env) a'->wpList P ops Q rest a' w):wpList P ops Q (o::rest) a w:=by obtain ⟨ms,h⟩:=c.h;exact gs Z (by rw [ho];exact p_ifaceNil h hx hu hb) k hw hd hN
theorem yf {s f b n:Nat} {x:Operand} {d:Nat} (Z:EnvOk N env a) (ho:o.op= .fieldAddr s x f) (hx:ev env x=some (.pointer (some ⟨b,0,none⟩))) (hw:wantedE ops env o=some true) (hd:o.dst=some d) (hN:Nat.blt d N=true) [c:CFo P s f n] (k: ∀a',EnvOk N ((d, .pointer (some ⟨b,n,none⟩))::env) a'->wpList P ops Q rest a' w):wpList P ops Q (o::rest) a w:=
  gs Z (by rw [ho];exact p_fieldAddr hx c.h (Nat.zero_add n)) k hw hd hN
theorem yg {s f b n off m:Nat} {x:Operand} {d:Nat} (Z:EnvOk N env a) (ho:o.op= .fieldAddr s x f) (hx:ev env x=some (.pointer (some ⟨b,off,none⟩))) (hw:wantedE ops env o=some true) (hd:o.dst=some d) (hN:Nat.blt d N=true) [c:CFo P s f n] (hm:off+n=m) (k: ∀a',EnvOk N ((d, .pointer (some ⟨b,m,none⟩))::env) a'->wpList P ops Q rest a' w):wpList P ops Q (o::rest) a w:=
  gs Z (by rw [ho];exact p_fieldAddr hx c.h hm) k hw hd hN
theorem yp {c x y:Operand} {b:Bool} {v:Value} {d:Nat} (Z:EnvOk N env a) (ho:o.op= .pick c x y) (hc:ev env c=some (.bool b)) (hx:ev env (match b with|true=>x|false=>y)=some v) (hw:wantedE ops env o=some true) (hd:o.dst=some d) (hN:Nat.blt d N=true) (k: ∀a',EnvOk N ((d,v)::env) a'->wpList P ops Q rest a' w):wpList P ops Q (o::rest) a w:=
  gs Z (by rw [ho];exact p_pick hc (by cases b<;>exact hx)) k hw hd hN
theorem yl {t:TypeId} {x:Operand} {b off:Nat} {cs:Array Value} {T:TypeId} {fr:Nat×Nat} {v:Value} {d:Nat} (Z:EnvOk N env a) (ho:o.op= .load t x) (hx:ev env x=some (.pointer (some ⟨b,off,none⟩))) (hc:w.heap[b]? =some (.cells cs T fr)) (hv:getL cs.toList off=some v) (hw:wantedE ops env o=some true) (hd:o.dst=some d) (hN:Nat.blt d N=true) [c:CSc P t] (k: ∀a',EnvOk N ((d,v)::env) a'->wpList P ops Q rest a' w):wpList P ops Q (o::rest) a w:=
  gl Z (by rw [ho];exact f_load hx c.h hc hv) k hw hd hN
theorem yL {t:TypeId} {x:Operand} {b off n:Nat} {cs:Array Value} {vs:List Value} {T:TypeId} {fr:Nat×Nat} {d:Nat} (Z:EnvOk N env a) (ho:o.op= .load t x) (hx:ev env x=some (.pointer (some ⟨b,off,none⟩))) [c:CAg P t n] (hc:w.heap[b]? =some (.cells cs T fr)) (hle:Nat.ble (off+n) cs.size=true) (hv:cutL cs.toList off n=vs) (hw:wantedE ops env o=some true) (hd:o.dst=some d) (hN:Nat.blt d N=true) (k: ∀a',EnvOk N ((d, .agg vs.toArray)::env) a'->wpList P ops Q rest a' w):wpList P ops Q (o::rest) a w:=
  gl Z (by rw [ho];exact f_loadA hx c.h hc hle hv) k hw hd hN
theorem ym {x:Operand} {d:Nat} {v:Value} (Z:EnvOk N env a) (ho:o.op= .move x) (hx:ev env x=some v) (hw:wantedE ops env o=some true) (hd:o.dst=some d) (hN:Nat.blt d N=true) (k: ∀a',EnvOk N ((d,v)::env) a'->wpList P ops Q rest a' w):wpList P ops Q (o::rest) a w:=gs Z (by rw [ho];exact p_move hx) k hw hd hN
theorem ya {x:Operand} {d:Nat} {v:Value} (Z:EnvOk N env a) (ho:o.op= .assign x) (hx:ev env x=some v) (hw:wantedE ops env o=some true) (hd:o.dst=some d) (hN:Nat.blt d N=true) (k: ∀a',EnvOk N ((d,v)::env) a'->wpList P ops Q rest a' w):wpList P ops Q (o::rest) a w:=gs Z (by rw [ho];exact p_assign hx) k hw hd hN
theorem yx {x:Operand} {i:Nat} {vs:Array Value} {d:Nat} {v:Value} (Z:EnvOk N env a) (ho:o.op= .extract x i) (hx:ev env x=some (.tuple vs)) (hv:getL vs.toList i=some v) (hw:wantedE ops env o=some true) (hd:o.dst=some d) (hN:Nat.blt d N=true) (k: ∀a',EnvOk N ((d,v)::env) a'->wpList P ops Q rest a' w):wpList P ops Q (o::rest) a w:=gs Z (by rw [ho];exact f_extract hx hv) k hw hd hN
theorem go {N':Nat} {env':Env} {G:Prop} {G':Act->Prop} (n:Nat) (Z:EnvOk N env a) (I:Inv w0 D ss w) (h: ∀a,EnvOk N' env' a->G' a)
    (k:Fuel n->EnvOk N env a->Inv w0 D ss w->(∀a,EnvOk N' env' a->G' a)->G:=by
      intro hn Z I hq
      repeat (replace hn:=Fuel.less hn;first
        |with_reducible refine wnt ?_
        |(refine ym Z rfl rfl rfl rfl rfl ?_;clear Z;intro a Z)
        |(refine ya Z rfl rfl rfl rfl rfl ?_;clear Z;intro a Z)
        |(refine yx Z rfl rfl rfl rfl rfl rfl ?_;clear Z;intro a Z)
        |(refine zk Z ?_ rfl rfl rfl;clear Z;intro a Z)
        |(refine yp (b:=true) Z rfl rfl rfl rfl rfl rfl ?_;clear Z;intro a Z)
        |(refine yp (b:=false) Z rfl rfl rfl rfl rfl rfl ?_;clear Z;intro a Z)
        |(refine yi Z rfl rfl rfl rfl rfl rfl rfl ?_;clear Z;intro a Z)
        |(refine yf Z rfl rfl rfl rfl rfl ?_;clear Z;intro a Z)
        |(refine yg Z rfl rfl rfl rfl rfl rfl ?_;clear Z;intro a Z)
        |(refine yl Z rfl rfl (by first|exact I.seg 0 rfl|exact I.seg 1 rfl|exact I.seg 2 rfl|exact I.seg 3 rfl|exact I.seg 4 rfl|exact I.seg 5 rfl|exact I.seg 6 rfl|exact I.seg 7 rfl|exact I.seg 8 rfl) rfl rfl rfl rfl ?_;clear Z;intro a Z)
        |(refine yL (vs:= [_,_,_,_,_]) Z rfl rfl (by first|exact I.seg 0 rfl|exact I.seg 1 rfl|exact I.seg 2 rfl|exact I.seg 3 rfl|exact I.seg 4 rfl|exact I.seg 5 rfl|exact I.seg 6 rfl|exact I.seg 7 rfl|exact I.seg 8 rfl) rfl rfl rfl rfl rfl ?_;clear Z;intro a Z)
        |with_reducible refine wsr ?_
        |with_reducible refine wp_region_list ?_
        |with_reducible refine wp_seq ?_
        |with_reducible refine then_normal ?_
        |with_reducible refine then_ret ?_
        |with_reducible refine then_exit ?_
        |with_reducible refine blk_ret ?_
        |with_reducible refine blk_normal ?_
        |with_reducible refine blk_same ?_
        |with_reducible refine blk_other rfl ?_
        |with_reducible refine wp_skip ?_
        |with_reducible refine wp_ret ?_
        |with_reducible refine wp_exit ?_
        |with_reducible refine wp_block ?_
        |refine c_true Z rfl ?_
        |refine c_false Z rfl ?_)
      replace hn:Fuel 0:=hn;exact hq _ Z):G:=k (.mk n) Z I h
theorem gc {G G':Prop} (n:Nat) (Z:EnvOk N env a) (h:G')
    (k:Fuel n->EnvOk N env a->G'->G:=by
      intro hn Z hq
      repeat (replace hn:=Fuel.less hn;first
        |with_reducible refine wnt ?_
        |with_reducible refine wsr ?_
        |with_reducible refine wp_region_list ?_
        |with_reducible refine wp_seq ?_
        |with_reducible refine then_normal ?_
        |with_reducible refine then_ret ?_
        |with_reducible refine then_exit ?_
        |with_reducible refine blk_ret ?_
        |with_reducible refine blk_normal ?_
        |with_reducible refine blk_same ?_
        |with_reducible refine blk_other rfl ?_
        |with_reducible refine wp_skip ?_
        |with_reducible refine wp_ret ?_
        |with_reducible refine wp_exit ?_
        |with_reducible refine wp_block ?_
        |refine c_true Z rfl ?_
        |refine c_false Z rfl ?_)
      replace hn:Fuel 0:=hn;exact hq):G:=k (.mk n) Z h
end
end Go.Proofs.YtikllmoofngjnaaGreatDoor.B
