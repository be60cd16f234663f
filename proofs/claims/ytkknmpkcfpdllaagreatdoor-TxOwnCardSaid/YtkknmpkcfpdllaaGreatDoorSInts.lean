/- A program logic over the model: what is owned, what is written no more, and one lemma for each kind of step. -/
import Derived.Test.YtkknmpkcfpdllaaGreatDoorSLaid
import Derived.Test.YtkknmpkcfpdllaaGreatDoorSStr
import Derived.Deep.Slices
namespace Go.Proofs.YtkknmpkcfpdllaaGreatDoor.B
open Go Go.Deep Go.ChangeShapes Go.WideShapes Go.ChangeAt Go.RowKit
set_option linter.unusedVariables false
def IntR (D:Sto) (vs:List Value) (x:Int):Prop:=vs= [.int .i64 x]
section
variable {H:Type} {enc:TypeId×Value→H} {P:Program} {W:World}
theorem open_intsT {base:Nat} {spare:Nat→Bool} {held:Bool} {fuel:Nat} {t e:TypeId} {v:Value} {y:DataW H×List MemPlace} (ht:P.underlying t=some (.slice e)) (he:P.underlying e=some (.int .i64)) (ce:P.cellsOf e=1)
    (hf:DataW.trod enc P W base spare held fuel t [v]=some y): ∃l:List Int,DR 1 IntR (fun b=>W.heap[b]?) v l∧l.length≤maxLen:=by
  rcases open_slice1 ht ce hf with ⟨hcs,_⟩|⟨x,len,cap,m,n,V,D,Pl,hcs,_,hl,hm,hmm,_,hel⟩
  ·obtain rfl:v= .slice none 0 0:=by simpa using hcs
   exact ⟨[],DR.nil 1 IntR _,by simp [maxLen]⟩
  ·obtain rfl:v= .slice (some x) len cap:=by simpa using hcs
   have hlm:len≤m:=by rw [hmm];split<;>omega
   obtain ⟨f,hfv⟩: ∃f:Nat→Int,∀i,i<m→V i= .int .i64 (f i):=by
     have hz: ∀i,i<m→ ∃z:Int,V i= .int .i64 z:=fun i h=>by
       obtain ⟨z,hz,_⟩:=DataW.trod_int he (hel i h).2;exact ⟨z,by simpa using hz⟩
     refine ⟨fun i=>if h:i<m then (hz i h).choose else 0,fun i h=> ?_⟩;simp only [dif_pos h];exact (hz i h).choose_spec
   have hln:((List.range len).map f).length=len:=by simp
   refine ⟨(List.range len).map f,⟨some x,cap,by rw [hln],by rw [hln];exact hl,by simp,fun hne=> ?_⟩,by rw [hln];omega⟩;have hlen:0<len:=by
     rcases Nat.eq_zero_or_pos len with h0|h0
     ·subst h0;simp at hne
     ·exact h0
   have h0:=(hel 0 (by omega)).1;obtain ⟨b,off,sp⟩:=x;have hsp:sp=none:=by
     cases sp with
     |none=>rfl
     |some z=>
       simp only [World.cell?,Addr.add] at h0;split at h0<;>simp at h0
   subst hsp;rw [add_plain] at h0;simp only [World.cell?,Nat.add_zero] at h0;split at h0
   ·rename_i cs T fr hb;refine ⟨b,off,cs,T,fr,rfl,hb,fun i y hy=> ?_⟩;have hi:i<len:=by
      have:=(List.getElem?_eq_some_iff.1 hy).1;rw [hln] at this;exact this
    have hyf:y=f i:=by rw [List.getElem?_map,List.getElem?_range hi] at hy;simpa using hy.symm
    subst hyf;have h1:=(hel i (by omega)).1;rw [add_plain] at h1;simp only [World.cell?] at h1;rw [hb] at h1;have h2:cs[off+i]? =some (V i):=by simpa using h1
    refine ⟨[V i],rfl,by rw [hfv i (by omega)];rfl,fun j u hj=> ?_⟩;cases j with
    |zero=>simp at hj;subst hj;simpa using h2
    |succ j=>simp at hj
   ·cases h0
theorem open_ints {b0 base:Nat} {spare:Nat→Bool} {held:Bool} {t e:TypeId} {v:Value} {d:DataW H} {ps:List MemPlace} (ht:P.underlying t=some (.slice e)) (he:P.underlying e=some (.int .i64)) (ce:P.cellsOf e=1)
    (hv:Value.okWide P W .any b0 t v) (h:DataW.Trod enc P W base spare held t v d ps): ∃l:List Int,DR 1 IntR (fun b=>W.heap[b]?) v l∧l.length≤maxLen:=by
  obtain ⟨a,len,cap,rfl⟩:=okWide_slice ht hv;obtain ⟨fuel,hf⟩:=h;exact open_intsT ht he ce hf
end
end Go.Proofs.YtkknmpkcfpdllaaGreatDoor.B
