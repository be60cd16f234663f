/- What functions of the program compute, each function once: steps over the model, and the plain law of it. -/
import Derived.Test.YtikllmoofngjnaaGreatDoorSInts
import Derived.Test.YtikllmoofngjnaaGreatDoorSLogB
namespace Go.Proofs.YtikllmoofngjnaaGreatDoor.B
open Go Go.Proofs
set_option linter.unusedVariables false
set_option linter.unusedSimpArgs false
def Rd.Ahd (r:Rd) (rest:List Nat):Prop:=r.err= .none/\r.rem=rest
theorem Rd.Ahd.num {r:Rd} {m low high:Int} {rest:List Nat} (h:r.Ahd (putZ m++rest)) (h0:low<=m) (h1:m<=high) (h2: -4611686018427387904<=m) (h3:m<=4611686018427387904): ∃r',r.num low high=(m,r')/\r'.Ahd rest/\r'.bs=r.bs:=
 ⟨_,num_put h.1 h.2 h0 h1 (by omega) (by omega),⟨h.1,rem_step h.2⟩,rfl⟩
theorem Rd.Ahd.left {r:Rd} (h:r.Ahd []):r.bs.length - r.pos=0:=by have:=rem_len r;rw [h.2] at this;exact this.symm
theorem Rd.ahd_start (bs:List Nat):(⟨bs,0, .none⟩:Rd).Ahd bs:=⟨rfl,rfl⟩
structure Sp where
 epoch:Int
 from_:Int
 to_:Int
def Sp.b (s:Sp):List Nat:=putZ s.epoch++(putZ s.from_++putZ s.to_)
def spanB (l:List Sp):List Nat:=putZ (l.length:Nat)++l.flatMap Sp.b
def Sp.Ok (s:Sp):Prop:=1<=s.epoch/\s.epoch<=1073741824/\0<=s.from_/\s.from_<s.to_/\s.to_<=1099511627776
instance (s:Sp):Decidable s.Ok:=inferInstanceAs (Decidable (_/\_/\_/\_/\_))
def spansOk (l:List Sp):Prop:=l.length<=64/\(∀s∈l,s.Ok)/\l.Pairwise fun s t=>s.epoch<t.epoch/\s.to_<t.to_
def deadS (l:List Sp) (lsn epoch:Int):Bool:=l.any fun s=>decide (epoch<s.epoch/\s.from_<lsn/\lsn<=s.to_)
def redoB (r:Rc):List Nat:=putZ r.lsn++(putZ r.back++(putZ r.epoch++(putZ r.group++(putZ r.page++(putZ r.kind++(putZ r.slot++(putZ (hadZ r.last)++((putZ (r.key.length:Nat)++r.key)++(putZ (r.val.length:Nat)++r.val)))))))))
structure Stt where
 promise:Int:=0
 installed:Int:=0
 inc:Int:=0
 whole:Bool:=false
 floor:Int:=0
 spans:List Sp:= []
structure Cl where
 kind:Int
 s:Stt:={}
 recs:List Rc:= []
def Cl.b (c:Cl):List Nat:=putZ c.kind++(putZ c.s.promise++(putZ c.s.installed++(putZ c.s.inc++(putZ (hadZ c.s.whole)++(putZ c.s.floor++(spanB c.s.spans++(putZ (c.recs.length:Nat)++c.recs.flatMap redoB)))))))
structure Cl.Ok (c:Cl):Prop where
 kind:0<=c.kind/\c.kind<=5
 promise:0<=c.s.promise/\c.s.promise<=1073741824
 installed:0<=c.s.installed/\c.s.installed<=1073741824
 inc:0<=c.s.inc/\c.s.inc<=1073741824
 floor:0<=c.s.floor/\c.s.floor<=1099511627776
 spans:spansOk c.s.spans
 recs:c.recs.length<=16384/\ ∀r∈c.recs,validR r=true
structure Ht where
 group:Int
 l:List Rc:= []
 spans:List Sp:= []
 cuts:Int:=0
 scl:Int:=0
 known:Bool:=false
def plR (l:List Rc) (n:Int):Nat:=(l.takeWhile fun r=>decide (r.lsn<n)).length
def putR (l:List Rc) (r:Rc):List Rc:=l.take (plR l r.lsn)++r::l.drop (plR l r.lsn)
def RisesR (l:List Rc):Prop:=l.Pairwise fun a b=>a.lsn<b.lsn
theorem plR_le: ∀(l:List Rc) (n:Int),plR l n<=l.length:=fun l n=>by
 have:=(List.takeWhile_prefix (fun r:Rc=>decide (r.lsn<n)) (l:=l)).length_le;exact this
theorem tw_all {p:Rc->Bool}: ∀(l:List Rc),∀x∈l.takeWhile p,p x=true
 | [],x,h=>by simp at h
 |a::l,x,h=>by
  rw [List.takeWhile_cons] at h;split at h
  ·rename_i ha;rcases List.mem_cons.1 h with rfl|h
   ·exact ha
   exact tw_all l x h
  simp at h
theorem plR_lt {l:List Rc} {n:Int} {i:Nat} {r:Rc} (hi:i<plR l n) (hr:l[i]? =some r):r.lsn<n:=by
 have hp:l.takeWhile (fun r=>decide (r.lsn<n)) <+:l:=List.takeWhile_prefix _;have h1:(l.takeWhile fun r=>decide (r.lsn<n))[i]? =some r:=by obtain ⟨t,ht⟩:=hp;rw [<-ht,List.getElem?_append_left hi] at hr;exact hr
 have:=tw_all l r (List.mem_of_getElem? h1);simpa using this
theorem plR_at {l:List Rc} {n:Int} {r:Rc} (hr:l[plR l n]? =some r):n<=r.lsn:=by
 unfold plR at hr;induction l with
 |nil=>simp at hr
 |cons a l ih=>
  rw [List.takeWhile_cons] at hr;split at hr
  ·exact ih (by simpa using hr)
  rename_i h;have:a=r:=by simpa using hr
  subst this;simp at h;exact h
theorem plR_ge {l:List Rc} {n:Int} {i:Nat} {r:Rc} (hs:RisesR l) (hi:plR l n<=i) (hr:l[i]? =some r):n<=r.lsn:=by
 have hl:=(List.getElem?_eq_some_iff.1 hr).1;have h0:l[plR l n]? =some l[plR l n]:=List.getElem?_eq_getElem (by omega);have:=plR_at h0;rcases Nat.lt_or_eq_of_le hi with q|q
 ·have h1:=List.pairwise_iff_getElem.1 hs _ _ (by omega) hl q;rw [(List.getElem?_eq_some_iff.1 hr).2] at h1;omega
 subst q;exact plR_at hr
theorem plR_here {l:List Rc} {n:Int} {r:Rc} (hs:RisesR l) (hr:r∈l) (hn:r.lsn=n):l[plR l n]? =some r:=by
 obtain ⟨i,hi,he⟩:=List.getElem_of_mem hr;have h1:l[i]? =some r:=by rw [List.getElem?_eq_getElem hi,he]
 rcases Nat.lt_trichotomy i (plR l n) with q|q|q
 ·have:=plR_lt q h1;omega
 ·rw [<-q];exact h1
 have h0:l[plR l n]? =some l[plR l n]:=List.getElem?_eq_getElem (by omega);have h2:=plR_at h0;have h3:=List.pairwise_iff_getElem.1 hs _ _ (by omega) hi q;rw [he] at h3;omega
theorem putR_mem {l:List Rc} {r x:Rc}:x∈putR l r↔x=r\/x∈l:=by
 unfold putR;rw [List.mem_append,List.mem_cons]
 conv=>rhs;rw [<-List.take_append_drop (plR l r.lsn) l,List.mem_append]
 constructor
 ·rintro (h|rfl|h)
  ·exact .inr (.inl h)
  ·exact .inl rfl
  exact .inr (.inr h)
 rintro (rfl|h|h)
 ·exact .inr (.inl rfl)
 ·exact .inl h
 exact .inr (.inr h)
theorem putR_len (l:List Rc) (r:Rc):(putR l r).length=l.length+1:=by unfold putR;have:=plR_le l r.lsn;simp only [List.length_append,List.length_take,List.length_cons,List.length_drop];omega
theorem putR_rises {l:List Rc} {r:Rc} (hs:RisesR l) (hn: ∀x∈l,x.lsn≠r.lsn):RisesR (putR l r):=by
 unfold putR RisesR;rw [List.pairwise_append];refine ⟨List.Pairwise.sublist (List.take_sublist _ _) hs, ?_,fun a ha b hb=> ?_⟩
 ·rw [List.pairwise_cons];refine ⟨fun b hb=> ?_,List.Pairwise.sublist (List.drop_sublist _ _) hs⟩;obtain ⟨j,hj,he⟩:=List.getElem_of_mem hb;have h1:l[plR l r.lsn+j]? =some b:=by rw [<-List.getElem?_drop,List.getElem?_eq_getElem hj,he]
  have h2:=plR_ge hs (Nat.le_add_right _ _) h1;have h3:=hn b (List.mem_of_getElem? h1);omega
 obtain ⟨i,hi,he⟩:=List.getElem_of_mem ha;rw [List.length_take] at hi;have h1:l[i]? =some a:=by rw [<-List.getElem?_take_of_lt (show i<plR l r.lsn by omega),List.getElem?_eq_getElem (by rw [List.length_take];omega),he]
 have ha':=plR_lt (n:=r.lsn) (by omega) h1;rcases List.mem_cons.1 hb with rfl|hb
 ·exact ha'
 obtain ⟨j,hj,hbe⟩:=List.getElem_of_mem hb;have h2:l[plR l r.lsn+j]? =some b:=by rw [<-List.getElem?_drop,List.getElem?_eq_getElem hj,hbe]
 have:=plR_ge hs (Nat.le_add_right _ _) h2;omega
section
variable {P:Program} {ops:Array Oper} {Q:Exit->Act->World->Prop} {a:Act} {w0 w w':World} {D:Sto} {ss:List Seg} {rest:List Oper} {o:Oper} {N:Nat} {env:Env} {K:Act->World->Prop}
theorem o_clearM_ {t u:TypeId} {v:TypeId} {x:Operand} {b:Nat} {es:Array MapEntry} {clock:Nat} {ts:Array TypeId} (j:Nat) (Z:EnvOk N env a) (I:Inv w0 D ss w) (hd:o.dst=none)
    (ho:o.op= .call {callee:= .builtin .clear,args:= #[x],argTypes:=ts}) (hx:ev env x=some (.map (some b))) (hts:ts[0]? =some t) (ht:P.underlying t=some (.map u v)) (hj:ss[j]? =some [(b, .map es clock)])
    (k: ∀w',Inv w0 D (ss.set j [(b, .map #[] clock)]) w'->K a w'):o.wp P a w K Q:=by
  have hb:=I.seg j hj;have hrun:(execOp a.eval o).run P w= .ok (.value (.tuple #[])) {w with heap:=w.heap.setIfInBounds b (.map #[] clock)}:=by simp [execOp,ho,resolve,Z.eval hx,invoke,builtin,Builtin.clear_,hts,run_underlying ht,run_getObj hb rfl,run_setObj hb rfl]
  exact o_val hrun (by rw [hd];exact k _ (I.turn_at j hj))
theorem IntMap.none (clock:Nat):IntMap #[] clock []:=⟨rfl,by simp,by simp,by simp⟩
end
set_option maxRecDepth 20000
set_option maxHeartbeats 8000000
section
variable {P:Program} {ops:Array Oper} {Q:Exit->Act->World->Prop} {a:Act} {w0 w w':World} {D:Sto} {ss:List Seg} {rest:List Oper} {o:Oper} {N:Nat} {env:Env} {K:Act->World->Prop}
end
open Go
theorem RB.one {D:Sto} {v:Value} {bs:List Nat} (h:RB D v bs):v.oneCell'=true:=by obtain ⟨A,c,rfl,_⟩:=h.slice;rfl
section
variable {P:Program} {env:Env}
theorem p_sliceAt {t e:TypeId} {x:Operand} {lo hi:Option Operand} {g off n c size l h:Nat} (hx:ev env x=some (.slice (some ⟨g,off,none⟩) n c)) (ht:P.underlying t=some (.slice e)) (hs:(P.info? e).map (·.size)=some size)
  (hl:loE env 0 lo=some l) (hh:loE env n hi=some h) (hlh:l<=h) (hhc:h<=c) (hlt:l<c):PureOp P env (.slice t x lo hi none) (.slice (some ⟨g,off+l*size,none⟩) (h - l) (c - l)):=by
 have:=p_slice (P:=P) (lo:=lo) (hi:=hi) (l:=l) (h:=h) hx ht hs (by cases lo<;>exact hl) (by cases hi<;>exact hh) hlh hhc;rw [if_neg (by omega)] at this;simpa [addr_add] using this
theorem p_sliceL {t e:TypeId} {x:Operand} {lo hi:Option Operand} {A:Option Addr} {n c size l h:Nat} (hx:ev env x=some (.slice A n c)) (ht:P.underlying t=some (.slice e)) (hs:(P.info? e).map (·.size)=some size)
  (hl:loE env 0 lo=some l) (hh:loE env n hi=some h) (hlh:l<=h) (hhc:h<=c):PureOp P env (.slice t x lo hi none) (.slice (if c=l then A else A.map (·.add (l*size))) (h - l) (c - l)):=
 p_slice (P:=P) (lo:=lo) (hi:=hi) (l:=l) (h:=h) hx ht hs (by cases lo<;>exact hl) (by cases hi<;>exact hh) hlh hhc
theorem p_sliceB {t e:TypeId} {x:Operand} {lo hi:Option Operand} {A B:Option Addr} {n c size l h:Nat} (hx:ev env x=some (.slice A n c)) (ht:P.underlying t=some (.slice e)) (hs:(P.info? e).map (·.size)=some size)
  (hl:loE env 0 lo=some l) (hh:loE env n hi=some h) (hlh:l<=h) (hhc:h<=c) (hB:(if c=l then A else A.map (·.add (l*size)))=B):PureOp P env (.slice t x lo hi none) (.slice B (h - l) (c - l)):=by
 subst hB;exact p_sliceL (P:=P) (lo:=lo) (hi:=hi) (l:=l) (h:=h) hx ht hs hl hh hlh hhc
theorem r_overlaps {f tr:Nat} {xs:Array Operand} {ts:Array TypeId} {fn:Func} {t e size b g off la ca lb cb Tb T:Nat} {cb' cur:Array Value} {w:World} (hv:xs.toList.map (ev env)= [some (.slice (some ⟨b,0,none⟩) la ca),some (.slice (some ⟨g,off,none⟩) lb cb)])
  (hf:P.funcs[f]? =some fn) (hname:(fn.name== "runtime.NumGoroutine")=false) (hb:fn.body.isNone=true) (hn:Extern.findNext fn=none) (he:Extern.find fn=some (Extern.SlicesOverlaps.overlaps #[t,t] #[tr]))
  (ht:P.underlying t=some (.slice e)) (hs:(P.info? e).map (·.size)=some size) (hbb:w.heap[b]? =some (.cells cb' Tb (0,0))) (hgg:w.heap[g]? =some (.cells cur T (0,0))) (hne:b≠g) (hc:cur.size≠0) :
  RunOp P env w (.call {callee:= .value (.func f),args:=xs,argTypes:=ts}) (.bool false):=
 r_extern (vs:= #[.slice (some ⟨b,0,none⟩) la ca, .slice (some ⟨g,off,none⟩) lb cb]) hv hf hname hb hn he
  (Lib.run_overlaps_apart w t tr e ht size (size_of hs) ⟨b,0,none⟩ ⟨g,off,none⟩ la ca lb cb hne Tb T cb'.size cur.size (by simp [World.shape?,hbb]) (by simp [World.shape?,hgg]) hc (by simp [World.frozen?,hbb]) (by simp [World.frozen?,hbb]))
end
section
open Go.ChangeMaps
variable {P:Program} {ops:Array Oper} {Q:Exit->Act->World->Prop} {a:Act} {w0 w w':World} {D:Sto} {ss:List Seg} {rest:List Oper} {o:Oper} {N:Nat} {env:Env} {K:Act->World->Prop}
end
end Go.Proofs.YtikllmoofngjnaaGreatDoor.B
