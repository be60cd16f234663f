/- A program logic over the model: what is owned, what is written no more, and one lemma for each kind of step. -/
import Derived.Test.YtefaghnlmmgpcaaGreatDoorTPage3
namespace Go.Proofs.YtefaghnlmmgpcaaGreatDoor.B
open Go
set_option linter.unusedVariables false
set_option linter.unusedSimpArgs false
section
variable {α:Type} {size:Nat} {R:Sto->List Value->α->Prop} {P:Program} {ops:Array Oper} {Q:Exit->Act->World->Prop} {a:Act} {w0 w w':World} {D:Sto} {ss:List Seg} {rest:List Oper} {o:Oper} {N:Nat} {env:Env} {K:Act->World->Prop}
theorem At.cells {cs:Array Value} {off:Nat} {xs:List α} (h:At size R D cs off xs) (h1: ∀vs x,R D vs x-> ∀u∈vs,u.oneCell'=true) (hz:0<size) :
    ∃news:List Value,news.length=xs.length*size/\(∀j,j<xs.length*size->news[j]? =cs[off+j]?)/\ ∀u∈news,u.oneCell'=true:=by
  have hone: ∀p,p<xs.length*size-> ∃u,cs[off+p]? =some u/\u.oneCell'=true:=fun p hp=>by
    have hq:p / size<xs.length:=Nat.div_lt_of_lt_mul (by rw [Nat.mul_comm];exact hp);obtain ⟨vs,hl,hr,hc⟩:=h (p / size) xs[p / size] (List.getElem?_eq_getElem hq);have hm:p % size<vs.length:=by rw [hl];exact Nat.mod_lt _ hz
    have h2:=hc (p % size) vs[p % size] (List.getElem?_eq_getElem hm);have h3:p / size*size+p % size=p:=by rw [Nat.mul_comm];exact Nat.div_add_mod p size
    exact ⟨_,by rw [Nat.add_assoc,h3] at h2;exact h2,h1 _ _ hr _ (List.getElem_mem hm)⟩
  have hget: ∀j,j<xs.length*size->((cs.toList.drop off).take (xs.length*size))[j]? =cs[off+j]? :=fun j hj=>by
    rw [List.getElem?_take_of_lt hj,List.getElem?_drop,Array.getElem?_toList]
  have hlen:((cs.toList.drop off).take (xs.length*size)).length=xs.length*size:=by
    rcases Nat.eq_zero_or_pos (xs.length*size) with h0|h0
    ·rw [h0];simp
    ·obtain ⟨u,hu,_⟩:=hone (xs.length*size - 1) (by omega);have h1:=(Array.getElem?_eq_some_iff.1 hu).1;have h2:cs.toList.length=cs.size:=Array.length_toList;simp;omega
  refine ⟨_,hlen,hget,fun u hu=> ?_⟩;obtain ⟨j,hj,rfl⟩:=List.getElem_of_mem hu;have h1:((cs.toList.drop off).take (xs.length*size))[j]? =some _:=List.getElem?_eq_getElem hj;rw [hget j (by omega)] at h1;obtain ⟨u,hu,h2⟩:=hone j (by omega);rw [hu] at h1;injection h1 with h1
  rw [<-h1];exact h2
theorem At.append {cs:Array Value} {off:Nat} {xs ys':List α} {ys news:List Value} (hx: ∀cs:List Value,At size R D (ys++cs).toArray 0 xs) (hl:ys.length=xs.length*size)
    (hy:At size R D cs off ys') (hn: ∀j,j<ys'.length*size->news[j]? =cs[off+j]?) (hnl:news.length=ys'.length*size) (tail:List Value):At size R D ((ys++news)++tail).toArray 0 (xs++ys'):=fun i x hix=>by
  by_cases hi:i<xs.length
  ·rw [List.getElem?_append_left hi] at hix;have h2:=hx (news++tail) i x hix;rw [<-List.append_assoc] at h2;exact h2
  ·rw [List.getElem?_append_right (by omega)] at hix;obtain ⟨vs,h1,h2,h3⟩:=hy _ x hix;refine ⟨vs,h1,h2,fun j u hj=> ?_⟩;have hj':=(List.getElem?_eq_some_iff.1 hj).1;have hi':=(List.getElem?_eq_some_iff.1 hix).1;have hm:=mul_le_of_lt (size:=size) hi';have hs:(i - xs.length)*size=i*size - xs.length*size:=Nat.sub_mul _ _ _;have hle:xs.length*size<=i*size:=Nat.mul_le_mul_right _ (by omega);have h4:=h3 j u hj;rw [Nat.add_assoc,<-hn _ (by omega)] at h4;show ((ys++news)++tail).toArray[0+i*size+j]? =some u;rw [List.getElem?_toArray,List.append_assoc,List.getElem?_append_right (by omega),List.getElem?_append_left (by omega)];rw [<-h4];congr 1;omega
theorem o_appendDR {x y:Operand} {t e bytes d:Nat} {z v vy:Value} {xs ys:List α} {s:Seg} (i:Nat) (Z:EnvOk N env a) (I:Inv w0 D ss w) (hd:o.dst=some d) (hN:Nat.blt d N=true)
    (ho:o.op= .call {callee:= .builtin .append,args:= #[x,y],argTypes:= #[t,t]}) (hx:ev env x=some v) (hy:ev env y=some vy) (ht:P.underlying t=some (.slice e))
    (hinfo:(P.info? e).map (fun i=>(i.zero,i.size,i.bytes))=some (some z,size,bytes)) (hz:z.cells.size=size) (hsz:Nat.blt 0 size=true) (hi:ss[i]? =some s) (hO:OR size R D e v xs s) (hY:DR size R D vy ys)
    (h1: ∀vs x,R D vs x-> ∀u∈vs,u.oneCell'=true) (hb:(xs.length+ys.length)*bytes<=140737488355328) (hm:xs.length+ys.length<=9223372036854775807)
    (k: ∀v' s' w',OR size R D e v' (xs++ys) s'->Inv w0 D (ss.set i s') w'-> ∀a',EnvOk N ((d,v')::env) a'->K a' w'):o.wp P a w K Q:=by
  obtain ⟨zs,hrow,hat⟩:=hO.row;have hsz':=Nat.le_of_ble_eq_true hsz;obtain ⟨A,c,rfl,hc1,hc2,hc3⟩:=hY;cases A with
  |none=>
    have h0:=hc2 rfl;have hys:ys= []:=List.length_eq_zero_iff.1 (by omega);subst hys;subst h0;refine o_appendNil Z I hd hN ho hx hy ht (by obtain ⟨inf,hi0,hzz⟩:=Option.map_eq_some_iff.1 hinfo;simp only [Prod.mk.injEq] at hzz;rw [hi0,Option.map_some,hzz.2.1]) hrow (I.segs i hi) ?_;intro a' hE';have hset:ss.set i s=ss:=List.ext_getElem? fun j=>by
      rw [List.getElem?_set];split
      ·rename_i h;subst h;have:=(List.getElem?_eq_some_iff.1 hi).1;rw [if_pos this,hi]
      ·rfl
    exact k v s w (by rw [List.append_nil];exact hO) (by rw [hset];exact I) a' hE'
  |some ad=>
    have key: ∃news:List Value,news.length=ys.length*size/\(∀j u,news[j]? =some u->w.cell? (ad.add j)=some u)/\(∀u∈news,u.oneCell'=true)/\ ∀tail:List Value,At size R D ((zs++news)++tail).toArray 0 (xs++ys):=by
      by_cases hys:ys= []
      ·subst hys;exact ⟨[],by simp,by simp,by simp,fun tail=>by simpa using hat tail⟩
      ·obtain ⟨b,off,cs,T,fr,h2,h3,h4⟩:=hc3 hys;injection h2 with h2;subst h2
       obtain ⟨news,hn1,hn2,hn3⟩:=h4.cells h1 hsz';refine ⟨news,hn1,fun j u hj=> ?_,hn3,fun tail=>At.append hat hrow.len h4 hn2 hn1 tail⟩;have hj':=(List.getElem?_eq_some_iff.1 hj).1;rw [hn2 j (by omega)] at hj;have h5:=I.data _ _ h3;show w.cell? ((⟨b,off,none⟩:Addr).add j)=some u;rw [addr_add,cell_of h5];exact hj
    obtain ⟨news,hn1,hn2,hn3,hn4⟩:=key;refine o_append (n:=xs.length) (news:=news) i Z I hd hN ho hx hy ht hinfo hz hsz hi hrow hn1 hn2 hn3 hb hm ?_;intro v' s' w' hR' hI' a' hE';exact k v' s' w' (OR.ofRow hR' (by simp) hn4) hI' a' hE'
theorem Inv.shutOR {T:Nat} {v:Value} {xs:List α} {s:Seg} (i:Nat) (I:Inv w0 D ss w) (hi:ss[i]? =some s) (hR:Keeps R) (hO:OR size R D T v xs s): ∃D',Le D D'/\Inv w0 D' (ss.eraseIdx i) w/\DR size R D' v xs:=
  ⟨_,(I.shut_at i hi).2,(I.shut_at i hi).1,hO.shut hR (I.shut_at i hi).2⟩
end
end Go.Proofs.YtefaghnlmmgpcaaGreatDoor.B
