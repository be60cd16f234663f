/- What functions of the program compute, each function once: steps over the model, and the plain law of it. -/
import Derived.Test.YtkknmpkcfpdllaaGreatDoorTLaw21
import Derived.Laws.BytesString
import Derived.Test.YtkknmpkcfpdllaaGreatDoorTTreeLawA
import Derived.Test.YtkknmpkcfpdllaaGreatDoorTTreeLaid
import Derived.Test.YtkknmpkcfpdllaaGreatDoorTRow
namespace Go.Proofs.YtkknmpkcfpdllaaGreatDoor.B
open Go Go.Proofs
set_option linter.unusedVariables false
set_option linter.unusedSimpArgs false
set_option maxRecDepth 20000
set_option maxHeartbeats 8000000
section
variable {P:Program} {ops:Array Oper} {Q:Exit→Act→World→Prop} {a:Act} {w0 w w':World} {D:Sto} {ss:List Seg} {o:Oper} {N:Nat} {env:Env} {K:Act→World→Prop}
end
theorem TreeS.ptr {D:Sto} {vb vp:Value} {b:Bt} {P:Pl} {s:Seg} (h:TreeS D vb vp b P s): ∃bb,vb= .pointer (some ⟨bb,0,none⟩):=by obtain ⟨sb,sp,_,⟨bb,bo,es,clk,m,vr,sr,h1,_⟩,_⟩:=h;exact ⟨bb,h1⟩
theorem Inv.merge {w0 w:World} {D:Sto} {ss:List Seg} {s1 s2:Seg} (h:Inv w0 D (s1::s2::ss) w):Inv w0 D ((s1++s2)::ss) w:=h.perm (List.Perm.of_eq (by simp))
theorem Inv.right {w0 w:World} {D:Sto} {ss:List Seg} {s1 s2:Seg} (h:Inv w0 D ((s1++s2)::ss) w):Inv w0 D (s2::ss) w:=
 (h.perm (ss':=s1::s2::ss) (List.Perm.of_eq (by simp))).drop
theorem TreeS.join {D:Sto} {vb vp:Value} {b:Bt} {P:Pl} {sb sp:Seg} (h:BatchS D vb vp b sb) (k:PoolS D vp P sp) (hp:b.pool=P.f):TreeS D vb vp b P (sb++sp):=⟨sb,sp,rfl,h,k,hp⟩
theorem BatchS.ptr {D:Sto} {vb vp:Value} {b:Bt} {s:Seg} (h:BatchS D vb vp b s): ∃bb,vb= .pointer (some ⟨bb,0,none⟩):=by obtain ⟨bb,bo,es,clk,m,vr,sr,h1,_⟩:=h;exact ⟨bb,h1⟩
theorem Inv.parted {w0 w:World} {D:Sto} {ss:List Seg} {s1 s2:Seg} (h:Inv w0 D ((s1++s2)::ss) w):Inv w0 D (s1::s2::ss) w:=h.perm (List.Perm.of_eq (by simp))
theorem BPut_ok {w0 w:World} {D:Sto} {ss:List Seg} {sb sp:Seg} {vb vp:Value} {b b':Bt} {P:Pl} (hI:Inv w0 D (sb::sp::ss) w) {ad:Nat→Addr} (hS:TSents D ad) (hB:BatchS D vb vp b sb) (hP:PoolS D vp P sp) (hpool:b.pool=P.f) {vk vv:Value} {key val:Bs} (hk:RB D vk key) (hv:RB D vv val) (hlen:b.recs.length≤1000000000 - 8000) (hok:b.put key val= .ok b') :
  Calls Tryz.prog 21 #[vb,vk,vv] w (Ret fun r w'=>r= .nilIface∧ ∃D' sb' sp',Le D D'∧BatchS D' vb vp b' sb'∧PoolS D' vp P sp'∧Inv w0 D' (sb'::sp'::ss) w'):=by
 refine (BPut_spec hI.merge hS (TreeS.join hB hP hpool) hk hv hlen).mono fun e w' h=> ?_;obtain ⟨r,he,h⟩:=h;refine ⟨r,he, ?_⟩;rcases h with ⟨b1,h1,rfl,D',s',hD,hT,hI'⟩|⟨c,o,h1,_⟩
 ·rw [hok] at h1;injection h1 with h1;subst h1
  obtain ⟨sb',sp',rfl,hB',hP',_⟩:=hT;exact ⟨rfl,D',sb',sp',hD,hB',hP',hI'.parted⟩
 rw [hok] at h1;cases h1
theorem Redo_ok {w0 w:World} {D:Sto} {ss:List Seg} {sb sp:Seg} {vb vp:Value} {b:Bt} {P:Pl} (hI:Inv w0 D (sb::sp::ss) w) {ad:Nat→Addr} (hS:TSents D ad) (hB:BatchS D vb vp b sb) (hP:PoolS D vp P sp) (hpool:b.pool=P.f) (hlen:b.recs.length≤1000000000) :
  Calls Tryz.prog 24 #[vb] w (Ret fun r w'=> ∃D' sb' sp',Le D D'∧DR 10 RcR D' r b.recs∧BatchS D' vb vp b sb'∧PoolS D' vp P sp'∧Inv w0 D' (sb'::sp'::ss) w'):=by
 refine (Redo_spec hI.merge hS (TreeS.join hB hP hpool) hlen).mono fun e w' h=> ?_;obtain ⟨r,he,D',hD,hI',hr,hT⟩:=h;refine ⟨r,he, ?_⟩;obtain ⟨sb',sp',hs,hB',hP',_⟩:=hT;rw [hs] at hI';exact ⟨D',sb',sp',hD,hr,hB',hP',hI'.parted⟩
structure Ck where
 seen:List Int
 leaves:List Pg
 keys:Int
section
variable {b:Bt} {f:Nat} {id level:Int} {low:Bs} {high:Option Bs} {c:Ck} {x:Pg}
end
structure CkOk (c:Ck):Prop where
 nodup:c.seen.Nodup
 range: ∀i∈c.seen,0≤i∧i<256
 leaves:c.leaves.length≤c.seen.length
 keys0:0≤c.keys
 keys1:c.keys≤8*(c.leaves.length:Nat)
def chainOk:List Pg→Bool
 | []=>true
 | [x]=>decide (x.next= -1)
 |x::y::r=>decide (x.next=y.id) && chainOk (y::r)
theorem CkOk.put {c:Ck} {id:Int} (h:CkOk c) (hn:id ∉ c.seen) (h0:0≤id∧id<256):CkOk ⟨id::c.seen,c.leaves,c.keys⟩:=
 ⟨List.nodup_cons.2 ⟨hn,h.nodup⟩,fun i hi=>by
  rcases List.mem_cons.1 hi with rfl|hi
  ·exact h0
  exact h.range i hi,by have:=h.leaves;simp only [List.length_cons];omega,h.keys0,h.keys1⟩
theorem CkOk.leaf {c:Ck} {id:Int} {x:Pg} (h:CkOk c) (hn:id ∉ c.seen) (h0:0≤id∧id<256) (hx:x.ents.length≤8):CkOk ⟨id::c.seen,c.leaves++ [x],c.keys+x.ents.length⟩:=
 ⟨(h.put hn h0).nodup,(h.put hn h0).range,by have:=h.leaves;simp only [List.length_cons,List.length_append,List.length_nil];omega,by have:=h.keys0;simp only [];omega,by have:=h.keys1;simp only [List.length_append,List.length_cons,List.length_nil];omega⟩
open Go
section
variable {α:Type} {size:Nat} {R:Sto→List Value→α→Prop} {P:Program} {ops:Array Oper} {Q:Exit→Act→World→Prop} {a:Act} {w0 w w':World} {D:Sto} {ss:List Seg} {rest:List Oper} {o:Oper} {N:Nat} {env:Env} {K:Act→World→Prop}
theorem At.cells {cs:Array Value} {off:Nat} {xs:List α} (h:At size R D cs off xs) (h1: ∀vs x,R D vs x→ ∀u∈vs,u.oneCell'=true) (hz:0<size) :
    ∃news:List Value,news.length=xs.length*size∧(∀j,j<xs.length*size→news[j]? =cs[off+j]?)∧ ∀u∈news,u.oneCell'=true:=by
  have hone: ∀p,p<xs.length*size→ ∃u,cs[off+p]? =some u∧u.oneCell'=true:=fun p hp=>by
    have hq:p / size<xs.length:=Nat.div_lt_of_lt_mul (by rw [Nat.mul_comm];exact hp);obtain ⟨vs,hl,hr,hc⟩:=h (p / size) xs[p / size] (List.getElem?_eq_getElem hq);have hm:p % size<vs.length:=by rw [hl];exact Nat.mod_lt _ hz
    have h2:=hc (p % size) vs[p % size] (List.getElem?_eq_getElem hm);have h3:p / size*size+p % size=p:=by rw [Nat.mul_comm];exact Nat.div_add_mod p size
    exact ⟨_,by rw [Nat.add_assoc,h3] at h2;exact h2,h1 _ _ hr _ (List.getElem_mem hm)⟩
  have hget: ∀j,j<xs.length*size→((cs.toList.drop off).take (xs.length*size))[j]? =cs[off+j]? :=fun j hj=>by
    rw [List.getElem?_take_of_lt hj,List.getElem?_drop,Array.getElem?_toList]
  have hlen:((cs.toList.drop off).take (xs.length*size)).length=xs.length*size:=by
    rcases Nat.eq_zero_or_pos (xs.length*size) with h0|h0
    ·rw [h0];simp
    ·obtain ⟨u,hu,_⟩:=hone (xs.length*size - 1) (by omega);have h1:=(Array.getElem?_eq_some_iff.1 hu).1;have h2:cs.toList.length=cs.size:=Array.length_toList;simp;omega
  refine ⟨_,hlen,hget,fun u hu=> ?_⟩;obtain ⟨j,hj,rfl⟩:=List.getElem_of_mem hu;have h1:((cs.toList.drop off).take (xs.length*size))[j]? =some _:=List.getElem?_eq_getElem hj;rw [hget j (by omega)] at h1;obtain ⟨u,hu,h2⟩:=hone j (by omega);rw [hu] at h1;injection h1 with h1
  rw [←h1];exact h2
theorem At.append {cs:Array Value} {off:Nat} {xs ys':List α} {ys news:List Value} (hx: ∀cs:List Value,At size R D (ys++cs).toArray 0 xs) (hl:ys.length=xs.length*size)
    (hy:At size R D cs off ys') (hn: ∀j,j<ys'.length*size→news[j]? =cs[off+j]?) (hnl:news.length=ys'.length*size) (tail:List Value):At size R D ((ys++news)++tail).toArray 0 (xs++ys'):=fun i x hix=>by
  by_cases hi:i<xs.length
  ·rw [List.getElem?_append_left hi] at hix;have h2:=hx (news++tail) i x hix;rw [←List.append_assoc] at h2;exact h2
  ·rw [List.getElem?_append_right (by omega)] at hix;obtain ⟨vs,h1,h2,h3⟩:=hy _ x hix;refine ⟨vs,h1,h2,fun j u hj=> ?_⟩;have hj':=(List.getElem?_eq_some_iff.1 hj).1;have hi':=(List.getElem?_eq_some_iff.1 hix).1;have hm:=mul_le_of_lt (size:=size) hi';have hs:(i - xs.length)*size=i*size - xs.length*size:=Nat.sub_mul _ _ _;have hle:xs.length*size≤i*size:=Nat.mul_le_mul_right _ (by omega);have h4:=h3 j u hj;rw [Nat.add_assoc,←hn _ (by omega)] at h4;show ((ys++news)++tail).toArray[0+i*size+j]? =some u;rw [List.getElem?_toArray,List.append_assoc,List.getElem?_append_right (by omega),List.getElem?_append_left (by omega)];rw [←h4];congr 1;omega
theorem OR.make {T b c:Nat} {z:Value} (hc:c≤maxLen):OR size R D T (.slice (Option.some ⟨b,0,Option.none⟩) 0 c) ([]:List α) [(b, .cells (madeCells z.cells (c*size)) T (0,0))]:=
  OR.ofAt (n:=0) rfl (Nat.zero_le _) hc (size_madeCells' _ _) (fun i x (hx:([]:List α)[i]? =Option.some x)=>by simp at hx)
theorem Inv.shutOR {T:Nat} {v:Value} {xs:List α} {s:Seg} (i:Nat) (hI:Inv w0 D ss w) (hi:ss[i]? =some s) (hR:Keeps R) (hO:OR size R D T v xs s): ∃D',Le D D'∧Inv w0 D' (ss.eraseIdx i) w∧DR size R D' v xs:=
  ⟨_,(hI.shut_at i hi).2,(hI.shut_at i hi).1,hO.shut hR (hI.shut_at i hi).2⟩
end
def HighV (D:Sto) (v:Value) (high:Option Bs):Prop:= ∃A n c,v= .slice A n c∧RB D v (high.getD [])∧(A=none↔high=none)
theorem HighV.mono {D D':Sto} {v:Value} {high:Option Bs} (h:HighV D v high) (hD:Le D D'):HighV D' v high:=by obtain ⟨A,n,c,h1,h2,h3⟩:=h;exact ⟨A,n,c,h1,h2.mono hD,h3⟩
theorem HighV.none (D:Sto):HighV D (.slice Option.none 0 0) Option.none:=⟨_,_,_,rfl,RB.nil D,by simp⟩
theorem HighV.key {D:Sto} {v:Value} {k:Bs} (h:RB D v k) (hk:k≠ []):HighV D v (Option.some k):=by
 obtain ⟨A,c,rfl,hc,hlt,hA,hat⟩:=h;refine ⟨A,_,c,rfl,⟨A,c,rfl,hc,hlt,hA,hat⟩, ?_⟩;cases A with
 |none=>
  have:=hA rfl;have hl:k.length=0:=by omega
  exact absurd (List.length_eq_zero_iff.1 hl) hk
 |some a=>simp
theorem CkOk.start:CkOk ⟨[1], [],0⟩:=⟨by simp,by intro i hi;simp only [List.mem_cons,List.not_mem_nil,or_false] at hi;omega,by simp,by simp,by simp⟩
end Go.Proofs.YtkknmpkcfpdllaaGreatDoor.B
