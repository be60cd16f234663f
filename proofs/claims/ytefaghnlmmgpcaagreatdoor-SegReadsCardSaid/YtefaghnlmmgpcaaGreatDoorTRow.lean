/- What functions of the program compute, each function once: steps over the model, and the plain law of it. -/
import Derived.Test.YtefaghnlmmgpcaaGreatDoorTPage2
namespace Go.Proofs.YtefaghnlmmgpcaaGreatDoor.B
open Go
set_option linter.unusedVariables false
set_option linter.unusedSimpArgs false
theorem RB.one {D:Sto} {v:Value} {bs:List Nat} (h:RB D v bs):v.oneCell'=true:=by obtain ⟨A,c,rfl,_⟩:=h.slice;rfl
theorem At.one {D:Sto} {cur:Array Value} {xs:Ens} (h:At 2 EnR D cur 0 xs): ∀p,p<xs.length*2-> ∃u,cur[p]? =some u/\u.oneCell'=true:=fun p hp=>by
 obtain ⟨vs,hl,⟨k,v,rfl,hk,hv,_⟩,hc⟩:=h (p / 2) xs[p / 2] (List.getElem?_eq_getElem (by omega));rcases Nat.mod_two_eq_zero_or_one p with h0|h0
 ·exact ⟨k,by have:=hc 0 k rfl;rwa [show 0+p / 2*2+0=p by omega] at this,hk.one⟩
 exact ⟨v,by have:=hc 1 v rfl;rwa [show 0+p / 2*2+1=p by omega] at this,hv.one⟩
theorem cellsOf {D:Sto} {cur:Array Value} {xs:Ens} (h:At 2 EnR D cur 0 xs) (lo n:Nat) (hn:lo+n<=xs.length*2) :
  ∃news:List Value,news.length=n/\(∀j,j<n->news[j]? =cur[lo+j]?)/\ ∀u∈news,u.oneCell'=true:=by
 have hget: ∀j,j<n->((cur.toList.drop lo).take n)[j]? =cur[lo+j]? :=fun j hj=>by
  rw [List.getElem?_take_of_lt hj,List.getElem?_drop,Array.getElem?_toList]
 have hlen:((cur.toList.drop lo).take n).length=n:=by
  rcases Nat.eq_zero_or_pos n with h0|h0
  ·subst h0;simp
  obtain ⟨u,hu,_⟩:=h.one (lo+n - 1) (by omega);have h1:=(Array.getElem?_eq_some_iff.1 hu).1;have h2:cur.toList.length=cur.size:=Array.length_toList;simp;omega
 refine ⟨_,hlen,hget,fun u hu=> ?_⟩;obtain ⟨j,hj,rfl⟩:=List.getElem_of_mem hu;have h1:((cur.toList.drop lo).take n)[j]? =some _:=List.getElem?_eq_getElem hj;rw [hget j (by omega)] at h1;obtain ⟨u,hu,h2⟩:=h.one (lo+j) (by omega);rw [hu] at h1;injection h1 with h1
 rw [<-h1];exact h2
theorem fin_grow {D:Sto} {cur C:Array Value} {xs:Ens} {i:Nat} {e:Bs×Bs} {k v:Value} {news:List Value} (hat:At 2 EnR D cur 0 xs) (hi:i<=xs.length) (hx:EnR D [k,v] e) (hnl:news.length=(xs.length - i)*2)
  (hn: ∀j,j<(xs.length - i)*2->news[j]? =cur[i*2+j]?) (hC:(i+1)*2+news.length<=C.size) (hB: ∀p,p<i*2->C[p]? =cur[p]?) :
  At 2 EnR D (splice (splice C (i*2) [k,v]) ((i+1)*2) news) 0 (xs.insertIdx i e):=by
 have hs:(splice C (i*2) [k,v]).size=C.size:=size_splice _ _ _;refine At.insert hat hi (vs:= [k,v]) rfl hx (fun p hp=> ?_) (fun j u hj=> ?_) (fun p h1 h2=> ?_)
 ·rw [getElem?_splice _ _ _ _ (by rw [hs];omega),if_neg (by omega),getElem?_splice _ _ _ _ (by simp only [List.length_cons,List.length_nil];omega),if_neg (by omega)];exact hB p hp
 ·have hj':=(List.getElem?_eq_some_iff.1 hj).1;simp only [List.length_cons,List.length_nil] at hj';rw [getElem?_splice _ _ _ _ (by rw [hs];omega),if_neg (by omega),getElem?_splice _ _ _ _ (by simp only [List.length_cons,List.length_nil];omega),if_pos (by simp only [List.length_cons,List.length_nil];omega),show i*2+j - i*2=j by omega];exact hj
 rw [getElem?_splice _ _ _ _ (by rw [hs];omega),if_pos (by omega),show p+2 - (i+1)*2=p - i*2 by omega,hn _ (by omega),show i*2+(p - i*2)=p by omega]
theorem fin_shift {D:Sto} {cur:Array Value} {xs:Ens} {i:Nat} {e:Bs×Bs} {k v:Value} {news:List Value} (hat:At 2 EnR D cur 0 xs) (hi:i<=xs.length) (hx:EnR D [k,v] e) (hnl:news.length=(xs.length - i)*2)
  (hn: ∀j,j<(xs.length - i)*2->news[j]? =cur[i*2+j]?) (hC:(i+1)*2+news.length<=cur.size) :
  At 2 EnR D (splice (splice cur ((i+1)*2) news) (i*2) [k,v]) 0 (xs.insertIdx i e):=by
 have hs:(splice cur ((i+1)*2) news).size=cur.size:=size_splice _ _ _;refine At.insert hat hi (vs:= [k,v]) rfl hx (fun p hp=> ?_) (fun j u hj=> ?_) (fun p h1 h2=> ?_)
 ·rw [getElem?_splice _ _ _ _ (by rw [hs];simp only [List.length_cons,List.length_nil];omega),if_neg (by omega),getElem?_splice _ _ _ _ (by omega),if_neg (by omega)]
 ·have hj':=(List.getElem?_eq_some_iff.1 hj).1;simp only [List.length_cons,List.length_nil] at hj';rw [getElem?_splice _ _ _ _ (by rw [hs];simp only [List.length_cons,List.length_nil];omega),if_pos (by simp only [List.length_cons,List.length_nil];omega),show i*2+j - i*2=j by omega];exact hj
 rw [getElem?_splice _ _ _ _ (by rw [hs];simp only [List.length_cons,List.length_nil];omega),if_neg (by simp only [List.length_cons,List.length_nil];omega),getElem?_splice _ _ _ _ (by omega),if_pos (by omega),show p+2 - (i+1)*2=p - i*2 by omega,hn _ (by omega),show i*2+(p - i*2)=p by omega]
theorem fin_erase {D:Sto} {cur:Array Value} {xs:Ens} {i:Nat} {news zs:List Value} (hat:At 2 EnR D cur 0 xs) (hi:i<xs.length) (hnl:news.length=(xs.length - (i+1))*2)
  (hn: ∀j,j<(xs.length - (i+1))*2->news[j]? =cur[(i+1)*2+j]?) (hz:zs.length=2) (hC:xs.length*2<=cur.size) :
  At 2 EnR D (splice (splice cur (i*2) news) ((xs.length - 1)*2) zs) 0 (xs.eraseIdx i):=by
 have hs:(splice cur (i*2) news).size=cur.size:=size_splice _ _ _;refine At.erase hat hi (fun p hp=> ?_) (fun p h1 h2=> ?_)
 ·rw [getElem?_splice _ _ _ _ (by rw [hs];omega),if_neg (by omega),getElem?_splice _ _ _ _ (by omega),if_neg (by omega)]
 rw [getElem?_splice _ _ _ _ (by rw [hs];omega),if_neg (by omega),getElem?_splice _ _ _ _ (by omega),if_pos (by omega),hn _ (by omega),show (i+1)*2+(p - 2 - i*2)=p by omega]
section
variable {P:Program} {env:Env}
theorem p_sliceAt {t e:TypeId} {x:Operand} {lo hi:Option Operand} {g off n c size l h:Nat} (hx:ev env x=some (.slice (some ⟨g,off,none⟩) n c)) (ht:P.underlying t=some (.slice e)) (hs:(P.info? e).map (·.size)=some size)
  (hl:loE env 0 lo=some l) (hh:loE env n hi=some h) (hlh:l<=h) (hhc:h<=c) (hlt:l<c):PureOp P env (.slice t x lo hi none) (.slice (some ⟨g,off+l*size,none⟩) (h - l) (c - l)):=by
 have:=p_slice (P:=P) (lo:=lo) (hi:=hi) (l:=l) (h:=h) hx ht hs (by cases lo<;>exact hl) (by cases hi<;>exact hh) hlh hhc;rw [if_neg (by omega)] at this;simpa [addr_add] using this
theorem p_sliceL {t e:TypeId} {x:Operand} {lo hi:Option Operand} {A:Option Addr} {n c size l h:Nat} (hx:ev env x=some (.slice A n c)) (ht:P.underlying t=some (.slice e)) (hs:(P.info? e).map (·.size)=some size)
  (hl:loE env 0 lo=some l) (hh:loE env n hi=some h) (hlh:l<=h) (hhc:h<=c):PureOp P env (.slice t x lo hi none) (.slice (if c=l then A else A.map (·.add (l*size))) (h - l) (c - l)):=
 p_slice (P:=P) (lo:=lo) (hi:=hi) (l:=l) (h:=h) hx ht hs (by cases lo<;>exact hl) (by cases hi<;>exact hh) hlh hhc
theorem p_sliceB {t e:TypeId} {x:Operand} {lo hi:Option Operand} {A B:Option Addr} {n c size l h:Nat} (hx:ev env x=some (.slice A n c)) (ht:P.underlying t=some (.slice e)) (hs:(P.info? e).map (·.size)=some size)
  (hl:loE env 0 lo=some l) (hh:loE env n hi=some h) (hlh:l<=h) (hhc:h<=c) (hB:(if c=l then A else A.map (·.add (l*size)))=B):PureOp P env (.slice t x lo hi none) (.slice B (h - l) (c - l)):=by
 subst hB;exact p_sliceL (P:=P) (lo:=lo) (hi:=hi) (l:=l) (h:=h) hx ht hs hl hh hlh hhc
theorem p_slice3 {t e:TypeId} {x y z u:Operand} {A:Option Addr} {n c size l h m:Nat} {k1 k2 k3:IntKind} (hx:ev env x=some (.slice A n c)) (ht:P.underlying t=some (.slice e)) (hs:(P.info? e).map (·.size)=some size)
  (hl:ev env y=some (.int k1 (l:Nat))) (hh:ev env z=some (.int k2 (h:Nat))) (hm:ev env u=some (.int k3 (m:Nat))) (hlh:l<=h) (hhm:h<=m) (hmc:m<=c) :
  PureOp P env (.slice t x (some y) (some z) (some u)) (.slice (if m=l then A else A.map (·.add (l*size))) (h - l) (m - l)):=fun _ a w o Z ho=>by
 have e1:=Z.eval hx;obtain ⟨inf,hi',rfl⟩:=Option.map_eq_some_iff.1 hs;have hb: ∀(y:Operand) (k:IntKind) (m:Nat) (lim:Nat) (code:BoundsCode),ev env y=some (.int k (m:Nat))->m<=lim-> ∀w,(Instr.sliceBound (a.eval y) lim code).run P w= .ok m w:=fun y k m lim code hm hle w=>by
  have h2:(m:Int)<=(lim:Int):=by omega
  simp [Instr.sliceBound,Z.eval hm,asIntOf,h2]
 have h1:=hb u k3 m c .slice3Acap hm hmc;have h2:=hb z k2 h m .slice3B hh hhm;have h3:=hb y k1 l h .slice3C hl hlh;simp [execOp,ho,e1,Instr.sliceAt,Instr.slice,underlying,program,ht,Sem.run,Instr.sliceBounds,sizeOf,typeInfo,hi',h1,h2,h3]
theorem r_overlaps {f tr:Nat} {xs:Array Operand} {ts:Array TypeId} {fn:Func} {t e size b g off la ca lb cb Tb T:Nat} {cb' cur:Array Value} {w:World} (hv:xs.toList.map (ev env)= [some (.slice (some ⟨b,0,none⟩) la ca),some (.slice (some ⟨g,off,none⟩) lb cb)])
  (hf:P.funcs[f]? =some fn) (hname:(fn.name== "runtime.NumGoroutine")=false) (hb:fn.body.isNone=true) (hn:Extern.findNext fn=none) (he:Extern.find fn=some (Extern.SlicesOverlaps.overlaps #[t,t] #[tr]))
  (ht:P.underlying t=some (.slice e)) (hs:(P.info? e).map (·.size)=some size) (hbb:w.heap[b]? =some (.cells cb' Tb (0,0))) (hgg:w.heap[g]? =some (.cells cur T (0,0))) (hne:b≠g) (hc:cur.size≠0) :
  RunOp P env w (.call {callee:= .value (.func f),args:=xs,argTypes:=ts}) (.bool false):=
 r_extern (vs:= #[.slice (some ⟨b,0,none⟩) la ca, .slice (some ⟨g,off,none⟩) lb cb]) hv hf hname hb hn he
  (Lib.run_overlaps_apart w t tr e ht size (size_of hs) ⟨b,0,none⟩ ⟨g,off,none⟩ la ca lb cb hne Tb T cb'.size cur.size (by simp [World.shape?,hbb]) (by simp [World.shape?,hgg]) hc (by simp [World.frozen?,hbb]) (by simp [World.frozen?,hbb]))
end
section
open Go.ChangeMaps
variable {P:Program} {ops:Array Oper} {Q:Exit->Act->World->Prop} {a:Act} {w0 w w':World} {D:Sto} {ss:List Seg} {rest:List Oper} {o:Oper} {N:Nat} {env:Env} {K:Act->World->Prop}
theorem o_clear_ {x:Operand} {t e size g off n c T:Nat} {z:Value} {ts:Array TypeId} {cur:Array Value} (j:Nat) (Z:EnvOk N env a) (I:Inv w0 D ss w) (hd:o.dst=none)
  (ho:o.op= .call {callee:= .builtin .clear,args:= #[x],argTypes:=ts}) (hts:ts[0]? =some t) (hx:ev env x=some (.slice (some ⟨g,off,none⟩) n c)) (ht:P.underlying t=some (.slice e))
  (hz:(P.info? e).bind (·.zero)=some z) (hzs:z.cells.size=size) (h1:z.cells.all (·.oneCell')=true) (hj:ss[j]? =some [(g, .cells cur T (0,0))]) (hfit:off+n*size<=cur.size)
  (k: ∀w' zs,zs.length=n*size->Inv w0 D (ss.set j [(g, .cells (splice cur off zs) T (0,0))]) w'->K a w'):o.wp P a w K Q:=by
 have hb:=I.seg j hj;by_cases hn:n=0
 ·subst hn;have hrun:(execOp a.eval o).run P w= .ok (.value (.tuple #[])) w:=by
   simp only [execOp,ho,resolve,invoke,builtin,Sem.run_bind,Sem.run_pure,Result.andThen_ok,List.map_toArray,List.map_cons,List.map_nil,Z.eval hx];simp [Builtin.clear_,run_underlying ht,hts]
  have hI':Inv w0 D (ss.set j [(g, .cells (splice cur off []) T (0,0))]) w:=by have h2:=I.turn_at (o':= .cells cur T (0,0)) j hj;have h3:({w with heap:=w.heap.setIfInBounds g (.cells cur T (0,0))}:World)=w:=set_self hb;rw [h3] at h2;exact h2
  exact o_val hrun (by rw [hd];exact k _ [] (by simp) hI')
 have hl:(Builtin.zeroCells z.cells n).toList.length=n*size:=by rw [Array.length_toList,size_zeroCells',hzs]
 have hall: ∀u∈(Builtin.zeroCells z.cells n).toList,u.oneCell'=true:=fun u hu=>by
  simp only [Builtin.zeroCells,Array.toList_map,List.mem_map] at hu;obtain ⟨i,hi,rfl⟩:=hu;have hi':i<n*z.cells.size:=by simpa using hi
  have hpos:0<z.cells.size:=by
   rcases Nat.eq_zero_or_pos z.cells.size with h|h
   ·rw [h] at hi';omega
   exact h
  have hm:=Nat.mod_lt i hpos;rw [getElem!_pos z.cells (i % z.cells.size) hm];exact Array.all_eq_true.1 h1 _ hm
 have hst:=run_storeCells_off (P:=P) (Builtin.zeroCells z.cells n).toList off 0 cur w hb (by rw [hl];omega) hall;simp only [Nat.add_zero] at hst;obtain ⟨m,rfl⟩: ∃m,n=m+1:=⟨n - 1,by omega⟩;have hzv: ∀w,(zeroValue e).run P w= .ok z w:=fun w=>by
  obtain ⟨i,hi,hz'⟩:=Option.bind_eq_some_iff.1 hz;simp [zeroValue,typeInfo,hi,hz']
 have hrun:(execOp a.eval o).run P w= .ok (.value (.tuple #[])) {w with heap:=w.heap.setIfInBounds g (.cells (splice cur off (Builtin.zeroCells z.cells (m+1)).toList) T (0,0))}:=by simp only [execOp,ho,resolve,invoke,builtin,Sem.run_bind,Sem.run_pure,Result.andThen_ok,List.map_toArray,List.map_cons,List.map_nil,Z.eval hx];simp [Builtin.clear_,run_underlying ht,hts,hzv,hst]
 exact o_val hrun (by rw [hd];exact k _ _ hl (I.turn_at j hj))
end
end Go.Proofs.YtefaghnlmmgpcaaGreatDoor.B
