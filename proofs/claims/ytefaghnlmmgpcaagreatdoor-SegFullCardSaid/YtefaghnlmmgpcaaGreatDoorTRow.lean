/- What functions of the program compute, each function once: steps over the model, and the plain law of it. -/
import Derived.Test.YtefaghnlmmgpcaaGreatDoorTSegP
import Derived.Test.YtefaghnlmmgpcaaGreatDoorSLogB
namespace Go.Proofs.YtefaghnlmmgpcaaGreatDoor.B
open Go Go.Proofs
set_option linter.unusedVariables false
set_option linter.unusedSimpArgs false
structure Ht where
 group:Int
 l:List Rc:= []
 spans:List Sp:= []
 cuts:Int:=0
 scl:Int:=0
 known:Bool:=false
def plR (l:List Rc) (n:Int):Nat:=(l.takeWhile fun r=>decide (r.lsn<n)).length
def putR (l:List Rc) (r:Rc):List Rc:=l.take (plR l r.lsn)++r::l.drop (plR l r.lsn)
def RisesR (l:List Rc):Prop:=l.Pairwise fun a b=>a.lsn<b.lsn
theorem plR_le: ∀(l:List Rc) (n:Int),plR l n<=l.length:=fun l n=>by
 have:=(List.takeWhile_prefix (fun r:Rc=>decide (r.lsn<n)) (l:=l)).length_le;exact this
theorem tw_all {p:Rc->Bool}: ∀(l:List Rc),∀x∈l.takeWhile p,p x=true
 | [],x,h=>by simp at h
 |a::l,x,h=>by
  rw [List.takeWhile_cons] at h;split at h
  ·rename_i ha;rcases List.mem_cons.1 h with rfl|h
   ·exact ha
   exact tw_all l x h
  simp at h
theorem plR_lt {l:List Rc} {n:Int} {i:Nat} {r:Rc} (hi:i<plR l n) (hr:l[i]? =some r):r.lsn<n:=by
 have hp:l.takeWhile (fun r=>decide (r.lsn<n)) <+:l:=List.takeWhile_prefix _;have h1:(l.takeWhile fun r=>decide (r.lsn<n))[i]? =some r:=by obtain ⟨t,ht⟩:=hp;rw [<-ht,List.getElem?_append_left hi] at hr;exact hr
 have:=tw_all l r (List.mem_of_getElem? h1);simpa using this
theorem plR_at {l:List Rc} {n:Int} {r:Rc} (hr:l[plR l n]? =some r):n<=r.lsn:=by
 unfold plR at hr;induction l with
 |nil=>simp at hr
 |cons a l ih=>
  rw [List.takeWhile_cons] at hr;split at hr
  ·exact ih (by simpa using hr)
  rename_i h;have:a=r:=by simpa using hr
  subst this;simp at h;exact h
theorem plR_here {l:List Rc} {n:Int} {r:Rc} (hs:RisesR l) (hr:r∈l) (hn:r.lsn=n):l[plR l n]? =some r:=by
 obtain ⟨i,hi,he⟩:=List.getElem_of_mem hr;have h1:l[i]? =some r:=by rw [List.getElem?_eq_getElem hi,he]
 rcases Nat.lt_trichotomy i (plR l n) with q|q|q
 ·have:=plR_lt q h1;omega
 ·rw [<-q];exact h1
 have h0:l[plR l n]? =some l[plR l n]:=List.getElem?_eq_getElem (by omega);have h2:=plR_at h0;have h3:=List.pairwise_iff_getElem.1 hs _ _ (by omega) hi q;rw [he] at h3;omega
section
variable {P:Program} {ops:Array Oper} {Q:Exit->Act->World->Prop} {a:Act} {w0 w w':World} {D:Sto} {ss:List Seg} {rest:List Oper} {o:Oper} {N:Nat} {env:Env} {K:Act->World->Prop}
theorem o_clearM_ {t u:TypeId} {v:TypeId} {x:Operand} {b:Nat} {es:Array MapEntry} {clock:Nat} {ts:Array TypeId} (j:Nat) (Z:EnvOk N env a) (I:Inv w0 D ss w) (hd:o.dst=none)
    (ho:o.op= .call {callee:= .builtin .clear,args:= #[x],argTypes:=ts}) (hx:ev env x=some (.map (some b))) (hts:ts[0]? =some t) (ht:P.underlying t=some (.map u v)) (hj:ss[j]? =some [(b, .map es clock)])
    (k: ∀w',Inv w0 D (ss.set j [(b, .map #[] clock)]) w'->K a w'):o.wp P a w K Q:=by
  have hb:=I.seg j hj;have hrun:(execOp a.eval o).run P w= .ok (.value (.tuple #[])) {w with heap:=w.heap.setIfInBounds b (.map #[] clock)}:=by simp [execOp,ho,resolve,Z.eval hx,invoke,builtin,Builtin.clear_,hts,run_underlying ht,run_getObj hb rfl,run_setObj hb rfl]
  exact o_val hrun (by rw [hd];exact k _ (I.turn_at j hj))
theorem IntMap.none (clock:Nat):IntMap #[] clock []:=⟨rfl,by simp,by simp,by simp⟩
end
set_option maxRecDepth 20000
set_option maxHeartbeats 8000000
section
variable {P:Program} {ops:Array Oper} {Q:Exit->Act->World->Prop} {a:Act} {w0 w w':World} {D:Sto} {ss:List Seg} {rest:List Oper} {o:Oper} {N:Nat} {env:Env} {K:Act->World->Prop}
end
open Go
theorem RB.one {D:Sto} {v:Value} {bs:List Nat} (h:RB D v bs):v.oneCell'=true:=by obtain ⟨A,c,rfl,_⟩:=h.slice;rfl
section
variable {P:Program} {env:Env}
theorem p_sliceAt {t e:TypeId} {x:Operand} {lo hi:Option Operand} {g off n c size l h:Nat} (hx:ev env x=some (.slice (some ⟨g,off,none⟩) n c)) (ht:P.underlying t=some (.slice e)) (hs:(P.info? e).map (·.size)=some size)
  (hl:loE env 0 lo=some l) (hh:loE env n hi=some h) (hlh:l<=h) (hhc:h<=c) (hlt:l<c):PureOp P env (.slice t x lo hi none) (.slice (some ⟨g,off+l*size,none⟩) (h - l) (c - l)):=by
 have:=p_slice (P:=P) (lo:=lo) (hi:=hi) (l:=l) (h:=h) hx ht hs (by cases lo<;>exact hl) (by cases hi<;>exact hh) hlh hhc;rw [if_neg (by omega)] at this;simpa [addr_add] using this
theorem p_sliceL {t e:TypeId} {x:Operand} {lo hi:Option Operand} {A:Option Addr} {n c size l h:Nat} (hx:ev env x=some (.slice A n c)) (ht:P.underlying t=some (.slice e)) (hs:(P.info? e).map (·.size)=some size)
  (hl:loE env 0 lo=some l) (hh:loE env n hi=some h) (hlh:l<=h) (hhc:h<=c):PureOp P env (.slice t x lo hi none) (.slice (if c=l then A else A.map (·.add (l*size))) (h - l) (c - l)):=
 p_slice (P:=P) (lo:=lo) (hi:=hi) (l:=l) (h:=h) hx ht hs (by cases lo<;>exact hl) (by cases hi<;>exact hh) hlh hhc
theorem r_overlaps {f tr:Nat} {xs:Array Operand} {ts:Array TypeId} {fn:Func} {t e size b g off la ca lb cb Tb T:Nat} {cb' cur:Array Value} {w:World} (hv:xs.toList.map (ev env)= [some (.slice (some ⟨b,0,none⟩) la ca),some (.slice (some ⟨g,off,none⟩) lb cb)])
  (hf:P.funcs[f]? =some fn) (hname:(fn.name== "runtime.NumGoroutine")=false) (hb:fn.body.isNone=true) (hn:Extern.findNext fn=none) (he:Extern.find fn=some (Extern.SlicesOverlaps.overlaps #[t,t] #[tr]))
  (ht:P.underlying t=some (.slice e)) (hs:(P.info? e).map (·.size)=some size) (hbb:w.heap[b]? =some (.cells cb' Tb (0,0))) (hgg:w.heap[g]? =some (.cells cur T (0,0))) (hne:b≠g) (hc:cur.size≠0) :
  RunOp P env w (.call {callee:= .value (.func f),args:=xs,argTypes:=ts}) (.bool false):=
 r_extern (vs:= #[.slice (some ⟨b,0,none⟩) la ca, .slice (some ⟨g,off,none⟩) lb cb]) hv hf hname hb hn he
  (Lib.run_overlaps_apart w t tr e ht size (size_of hs) ⟨b,0,none⟩ ⟨g,off,none⟩ la ca lb cb hne Tb T cb'.size cur.size (by simp [World.shape?,hbb]) (by simp [World.shape?,hgg]) hc (by simp [World.frozen?,hbb]) (by simp [World.frozen?,hbb]))
end
section
open Go.ChangeMaps
variable {P:Program} {ops:Array Oper} {Q:Exit->Act->World->Prop} {a:Act} {w0 w w':World} {D:Sto} {ss:List Seg} {rest:List Oper} {o:Oper} {N:Nat} {env:Env} {K:Act->World->Prop}
end
end Go.Proofs.YtefaghnlmmgpcaaGreatDoor.B
