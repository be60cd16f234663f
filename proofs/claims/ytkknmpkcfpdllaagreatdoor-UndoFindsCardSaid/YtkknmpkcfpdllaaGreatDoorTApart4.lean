/- What functions of the program compute, each function once: steps over the model, and the plain law of it. -/
import Derived.Test.YtkknmpkcfpdllaaGreatDoorTRow
import Derived.Test.YtkknmpkcfpdllaaGreatDoorTValuesP
import Derived.Test.YtkknmpkcfpdllaaGreatDoorTCheck
import Derived.Test.YtkknmpkcfpdllaaGreatDoorTTree6
import Derived.Test.YtkknmpkcfpdllaaGreatDoorTTreeLaid
import Derived.Test.YtkknmpkcfpdllaaGreatDoorTScanRel
namespace Go.Proofs.YtkknmpkcfpdllaaGreatDoor.B
open Go
set_option linter.unusedVariables false
set_option linter.unusedSimpArgs false
section
variable {α:Type} {size:Nat} {R:Sto→List Value→α→Prop} {P:Program} {ops:Array Oper} {Q:Exit→Act→World→Prop} {a:Act} {w0 w w':World} {D:Sto} {ss:List Seg} {rest:List Oper} {o:Oper} {N:Nat} {env:Env} {K:Act→World→Prop}
theorem At.cells {cs:Array Value} {off:Nat} {xs:List α} (h:At size R D cs off xs) (h1: ∀vs x,R D vs x→ ∀u∈vs,u.oneCell'=true) (hz:0<size) :
    ∃news:List Value,news.length=xs.length*size∧(∀j,j<xs.length*size→news[j]? =cs[off+j]?)∧ ∀u∈news,u.oneCell'=true:=by
  have hone: ∀p,p<xs.length*size→ ∃u,cs[off+p]? =some u∧u.oneCell'=true:=fun p hp=>by
    have hq:p / size<xs.length:=Nat.div_lt_of_lt_mul (by rw [Nat.mul_comm];exact hp);obtain ⟨vs,hl,hr,hc⟩:=h (p / size) xs[p / size] (List.getElem?_eq_getElem hq);have hm:p % size<vs.length:=by rw [hl];exact Nat.mod_lt _ hz
    have h2:=hc (p % size) vs[p % size] (List.getElem?_eq_getElem hm);have h3:p / size*size+p % size=p:=by rw [Nat.mul_comm];exact Nat.div_add_mod p size
    exact ⟨_,by rw [Nat.add_assoc,h3] at h2;exact h2,h1 _ _ hr _ (List.getElem_mem hm)⟩
  have hget: ∀j,j<xs.length*size→((cs.toList.drop off).take (xs.length*size))[j]? =cs[off+j]? :=fun j hj=>by
    rw [List.getElem?_take_of_lt hj,List.getElem?_drop,Array.getElem?_toList]
  have hlen:((cs.toList.drop off).take (xs.length*size)).length=xs.length*size:=by
    rcases Nat.eq_zero_or_pos (xs.length*size) with h0|h0
    ·rw [h0];simp
    ·obtain ⟨u,hu,_⟩:=hone (xs.length*size - 1) (by omega);have h1:=(Array.getElem?_eq_some_iff.1 hu).1;have h2:cs.toList.length=cs.size:=Array.length_toList;simp;omega
  refine ⟨_,hlen,hget,fun u hu=> ?_⟩;obtain ⟨j,hj,rfl⟩:=List.getElem_of_mem hu;have h1:((cs.toList.drop off).take (xs.length*size))[j]? =some _:=List.getElem?_eq_getElem hj;rw [hget j (by omega)] at h1;obtain ⟨u,hu,h2⟩:=hone j (by omega);rw [hu] at h1;injection h1 with h1
  rw [←h1];exact h2
theorem At.append {cs:Array Value} {off:Nat} {xs ys':List α} {ys news:List Value} (hx: ∀cs:List Value,At size R D (ys++cs).toArray 0 xs) (hl:ys.length=xs.length*size)
    (hy:At size R D cs off ys') (hn: ∀j,j<ys'.length*size→news[j]? =cs[off+j]?) (hnl:news.length=ys'.length*size) (tail:List Value):At size R D ((ys++news)++tail).toArray 0 (xs++ys'):=fun i x hix=>by
  by_cases hi:i<xs.length
  ·rw [List.getElem?_append_left hi] at hix;have h2:=hx (news++tail) i x hix;rw [←List.append_assoc] at h2;exact h2
  ·rw [List.getElem?_append_right (by omega)] at hix;obtain ⟨vs,h1,h2,h3⟩:=hy _ x hix;refine ⟨vs,h1,h2,fun j u hj=> ?_⟩;have hj':=(List.getElem?_eq_some_iff.1 hj).1;have hi':=(List.getElem?_eq_some_iff.1 hix).1;have hm:=mul_le_of_lt (size:=size) hi';have hs:(i - xs.length)*size=i*size - xs.length*size:=Nat.sub_mul _ _ _;have hle:xs.length*size≤i*size:=Nat.mul_le_mul_right _ (by omega);have h4:=h3 j u hj;rw [Nat.add_assoc,←hn _ (by omega)] at h4;show ((ys++news)++tail).toArray[0+i*size+j]? =some u;rw [List.getElem?_toArray,List.append_assoc,List.getElem?_append_right (by omega),List.getElem?_append_left (by omega)];rw [←h4];congr 1;omega
theorem o_appendDR {x y:Operand} {t e bytes d:Nat} {z v vy:Value} {xs ys:List α} {s:Seg} (i:Nat) (hE:EnvOk N env a) (hI:Inv w0 D ss w) (hd:o.dst=some d) (hN:Nat.blt d N=true)
    (ho:o.op= .call {callee:= .builtin .append,args:= #[x,y],argTypes:= #[t,t]}) (hx:ev env x=some v) (hy:ev env y=some vy) (ht:P.underlying t=some (.slice e))
    (hinfo:(P.info? e).map (fun i=>(i.zero,i.size,i.bytes))=some (some z,size,bytes)) (hz:z.cells.size=size) (hsz:Nat.blt 0 size=true) (hi:ss[i]? =some s) (hO:OR size R D e v xs s) (hY:DR size R D vy ys)
    (h1: ∀vs x,R D vs x→ ∀u∈vs,u.oneCell'=true) (hb:(xs.length+ys.length)*bytes≤140737488355328) (hm:xs.length+ys.length≤9223372036854775807)
    (k: ∀v' s' w',OR size R D e v' (xs++ys) s'→Inv w0 D (ss.set i s') w'→ ∀a',EnvOk N ((d,v')::env) a'→K a' w'):o.wp P a w K Q:=by
  obtain ⟨zs,hrow,hat⟩:=hO.row;have hsz':=Nat.le_of_ble_eq_true hsz;obtain ⟨A,c,rfl,hc1,hc2,hc3⟩:=hY;cases A with
  |none=>
    have h0:=hc2 rfl;have hys:ys= []:=List.length_eq_zero_iff.1 (by omega);subst hys;subst h0;refine o_appendNil hE hI hd hN ho hx hy ht (by obtain ⟨inf,hi0,hzz⟩:=Option.map_eq_some_iff.1 hinfo;simp only [Prod.mk.injEq] at hzz;rw [hi0,Option.map_some,hzz.2.1]) hrow (hI.segs i hi) ?_;intro a' hE';have hset:ss.set i s=ss:=List.ext_getElem? fun j=>by
      rw [List.getElem?_set];split
      ·rename_i h;subst h;have:=(List.getElem?_eq_some_iff.1 hi).1;rw [if_pos this,hi]
      ·rfl
    exact k v s w (by rw [List.append_nil];exact hO) (by rw [hset];exact hI) a' hE'
  |some ad=>
    have key: ∃news:List Value,news.length=ys.length*size∧(∀j u,news[j]? =some u→w.cell? (ad.add j)=some u)∧(∀u∈news,u.oneCell'=true)∧ ∀tail:List Value,At size R D ((zs++news)++tail).toArray 0 (xs++ys):=by
      by_cases hys:ys= []
      ·subst hys;exact ⟨[],by simp,by simp,by simp,fun tail=>by simpa using hat tail⟩
      ·obtain ⟨b,off,cs,T,fr,h2,h3,h4⟩:=hc3 hys;injection h2 with h2;subst h2
       obtain ⟨news,hn1,hn2,hn3⟩:=h4.cells h1 hsz';refine ⟨news,hn1,fun j u hj=> ?_,hn3,fun tail=>At.append hat hrow.len h4 hn2 hn1 tail⟩;have hj':=(List.getElem?_eq_some_iff.1 hj).1;rw [hn2 j (by omega)] at hj;have h5:=hI.data _ _ h3;show w.cell? ((⟨b,off,none⟩:Addr).add j)=some u;rw [addr_add,cell_of h5];exact hj
    obtain ⟨news,hn1,hn2,hn3,hn4⟩:=key;refine o_append (n:=xs.length) (news:=news) i hE hI hd hN ho hx hy ht hinfo hz hsz hi hrow hn1 hn2 hn3 hb hm ?_;intro v' s' w' hR' hI' a' hE';exact k v' s' w' (OR.ofRow hR' (by simp) hn4) hI' a' hE'
theorem OR.make {T b c:Nat} {z:Value} (hc:c≤maxLen):OR size R D T (.slice (Option.some ⟨b,0,Option.none⟩) 0 c) ([]:List α) [(b, .cells (madeCells z.cells (c*size)) T (0,0))]:=
  OR.ofAt (n:=0) rfl (Nat.zero_le _) hc (size_madeCells' _ _) (fun i x (hx:([]:List α)[i]? =Option.some x)=>by simp at hx)
theorem Inv.shutOR {T:Nat} {v:Value} {xs:List α} {s:Seg} (i:Nat) (hI:Inv w0 D ss w) (hi:ss[i]? =some s) (hR:Keeps R) (hO:OR size R D T v xs s): ∃D',Le D D'∧Inv w0 D' (ss.eraseIdx i) w∧DR size R D' v xs:=
  ⟨_,(hI.shut_at i hi).2,(hI.shut_at i hi).1,hO.shut hR (hI.shut_at i hi).2⟩
end
open Go Go.Proofs
def HighV (D:Sto) (v:Value) (high:Option Bs):Prop:= ∃A n c,v= .slice A n c∧RB D v (high.getD [])∧(A=none↔high=none)
theorem HighV.mono {D D':Sto} {v:Value} {high:Option Bs} (h:HighV D v high) (hD:Le D D'):HighV D' v high:=by obtain ⟨A,n,c,h1,h2,h3⟩:=h;exact ⟨A,n,c,h1,h2.mono hD,h3⟩
theorem HighV.none (D:Sto):HighV D (.slice Option.none 0 0) Option.none:=⟨_,_,_,rfl,RB.nil D,by simp⟩
theorem HighV.key {D:Sto} {v:Value} {k:Bs} (h:RB D v k) (hk:k≠ []):HighV D v (Option.some k):=by
 obtain ⟨A,c,rfl,hc,hlt,hA,hat⟩:=h;refine ⟨A,_,c,rfl,⟨A,c,rfl,hc,hlt,hA,hat⟩, ?_⟩;cases A with
 |none=>
  have:=hA rfl;have hl:k.length=0:=by omega
  exact absurd (List.length_eq_zero_iff.1 hl) hk
 |some a=>simp
set_option maxRecDepth 20000
set_option maxHeartbeats 8000000
theorem strOf_fold: ∀(l:List Int) (b:ByteArray),(l.foldl (fun r n=>r.push (UInt8.ofNat n.toNat)) b).data.toList=b.data.toList++l.map (fun n=>UInt8.ofNat n.toNat)
 | [],b=>by simp
 |n::r,b=>by
  rw [List.foldl_cons,strOf_fold r];simp
theorem strOf_list (bs:List Nat):(strOf bs).data.toList=bs.map UInt8.ofNat:=by rw [strOf,strOf_fold];simp [Function.comp_def]
theorem ofNat_inj {x y:Nat} (hx:x<256) (hy:y<256) (h:UInt8.ofNat x=UInt8.ofNat y):x=y:=by have:=congrArg UInt8.toNat h;simp only [UInt8.toNat_ofNat'] at this;omega
theorem map_inj: ∀{xs ys:List Nat},(∀x∈xs,x<256)→(∀y∈ys,y<256)→xs.map UInt8.ofNat=ys.map UInt8.ofNat→xs=ys
 | [], [],_,_,_=>rfl
 | [],_::_,_,_,h=>by simp at h
 |_::_, [],_,_,h=>by simp at h
 |x::xs,y::ys,hx,hy,h=>by
  simp only [List.map_cons,List.cons.injEq] at h;rw [ofNat_inj (hx x (by simp)) (hy y (by simp)) h.1,map_inj (fun q hq=>hx q (by simp [hq])) (fun q hq=>hy q (by simp [hq])) h.2]
theorem strOf_eq {xs ys:List Nat} (hx: ∀x∈xs,x<256) (hy: ∀y∈ys,y<256):((strOf xs).toList==(strOf ys).toList)=decide (xs=ys):=by
 rw [ByteArray.toList_eq,ByteArray.toList_eq,strOf_list,strOf_list];by_cases h:xs=ys
 ·subst h;simp
 rw [decide_eq_false h];exact beq_eq_false_iff_ne.2 fun h2=>h (map_inj hx hy h2)
theorem CkOk.start:CkOk ⟨[1], [],0⟩:=⟨by simp,by intro i hi;simp only [List.mem_cons,List.not_mem_nil,or_false] at hi;omega,by simp,by simp,by simp⟩
theorem lit_data {w0 w:World} {D:Sto} {ss:List Seg} {b T:Nat} {fr:Nat×Nat} (bs:List Nat) (i:Nat) (hI:Inv w0 D ss w) (hi:ss[i]? =some [(b, .cells (bytesV bs).toArray T fr)]) (hb: ∀x∈bs,x<256) :
  ∃D',Le D D'∧Inv w0 D' (ss.eraseIdx i) w∧RB D' (.slice (some ⟨b,0,none⟩) bs.length bs.length) bs:=by
 obtain ⟨h1,h2⟩:=hI.shut_at i hi;exact ⟨_,h2,h1,RB.lit hb⟩
theorem Inv.part {w0 w:World} {D:Sto} {ss:List Seg} {s1 s2:Seg} (h:Inv w0 D ((s1++s2)::ss) w):Inv w0 D (s1::s2::ss) w:=h.perm (List.Perm.of_eq (by simp))
theorem c_cutE {X:Type} {P:Program} {Q:Exit→Act→World→Prop} {N:Nat} {env:Env} {a:Act} {w:World} {x y:Code} (slots:List Nat) (en:X→Env) (W:X→World→Prop) (hE:EnvOk N env a)
  (h:x.wp P (Exit.then (fun a' w'=> ∃z,EnvOk N (en z++pick env slots) a'∧W z w') Q) a w)
  (k: ∀z a' w',EnvOk N (en z++pick env slots) a'→W z w'→y.wp P Q a' w'):(Code.seq x y).wp P Q a w:=
 wp_seq (wp_mono h fun e a' w' q=>by
  cases e<;>first|exact q|(obtain ⟨b,hE',hW⟩:=q;exact k b a' w' hE' hW))
theorem Next_yes {w0 w:World} {D:Sto} {ss:List Seg} {sb sp:Seg} {vb vp:Value} {b:Bt} {P:Pl} (hI:Inv w0 D (sb::sp::ss) w) {ad:Nat→Addr} (hS:TSents D ad) (hB:BatchS D vb vp b sb) (hP:PoolS D vp P sp) (hpool:b.pool=P.f) {vk:Value} {key:Bs} (hk:RB D vk key) {res:Option (Bs×Bs)} (hok:b.from_ key false= .ok res) :
  Calls Tryz.prog 127 #[vb,vk] w (Ret fun r w'=> ∃D' k v sb' sp',Le D D'∧r= .tuple #[.agg #[k,v], .bool res.isSome, .nilIface]∧RB D' k (res.getD ([], [])).1∧RB D' v (res.getD ([], [])).2∧BatchS D' vb vp b sb'∧PoolS D' vp P sp'∧Inv w0 D' (sb'::sp'::ss) w'):=by
 refine (Next_spec hI.merge hS (TreeS.join hB hP hpool) hk).mono fun e w' h=> ?_;obtain ⟨r,he,h⟩:=h;refine ⟨r,he, ?_⟩;rcases h with ⟨res',h1,D',k,v,hD,rfl,hk',hv',hT,hI'⟩|⟨c,o,h1,_⟩
 ·rw [hok] at h1;injection h1 with h1;subst h1
  obtain ⟨sb',sp',hs,hB',hP',_⟩:=hT;rw [hs] at hI';exact ⟨D',k,v,sb',sp',hD,rfl,hk',hv',hB',hP',hI'.parted⟩
 rw [hok] at h1;cases h1
end Go.Proofs.YtkknmpkcfpdllaaGreatDoor.B
