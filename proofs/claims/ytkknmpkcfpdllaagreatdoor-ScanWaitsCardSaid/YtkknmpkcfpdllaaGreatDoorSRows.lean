/- A program logic over the model: what is owned, what is written no more, and one lemma for each kind of step. -/
import Derived.Test.YtkknmpkcfpdllaaGreatDoorTTreeRel
import Derived.Test.YtkknmpkcfpdllaaGreatDoorSLogB
import Derived.Test.YtkknmpkcfpdllaaGreatDoorTFacts
import Derived.Test.YtkknmpkcfpdllaaGreatDoorSLaid
import Derived.Deep.Slices
namespace Go.Proofs.YtkknmpkcfpdllaaGreatDoor.B
open Go Go.Proofs
set_option linter.unusedVariables false
set_option linter.unusedSimpArgs false
set_option maxRecDepth 20000
set_option maxHeartbeats 8000000
def BsR (D:Sto) (vs:List Value) (x:Bs):Prop:= ∃v,vs= [v]∧RB D v x
theorem BsR.keeps:Keeps BsR:=fun D D' vs x hD h=>by obtain ⟨v,rfl,h⟩:=h;exact ⟨v,rfl,h.mono hD⟩
theorem Keys_spec {w0 w:World} {D:Sto} {ss:List Seg} (hI:Inv w0 D ss w) {vl:Value} {l:List Bs} (hl:DR 1 BsR D vl l) {most long:Int} (hm:most≤1000000000) :
  Calls Tryz.prog 13 #[vl, .int .i64 most, .int .i64 long] w (Ret fun r w'=>r= .bool (decide ((l.length:Int)≤most∧ ∀k∈l,(k.length:Int)≤long))∧Inv w0 D ss w'):=by
 obtain ⟨A1,c2,rfl,_⟩:=hl.slice;refine enter (N:=25) Tryz.func13 rfl rfl rfl ?_;intro a hE;refine go 6 hE hI ?_;clear hE a;intro a hE;refine zs hE (p_len rfl rfl Tryz.underlying23) ?_;clear hE a;intro a hE;refine zm hE ?_;clear hE a;intro a hE;refine l_step rfl (o_cmp hE rfl rfl rfl rfl rfl rfl ?_ ?_)
 ·intro hgt;replace hgt:=gtr_t hgt;clear hE a;intro a hE;refine go 7 hE hI ?_;clear hE a;intro a hE;refine ret1 rfl hE rfl ?_;exact ⟨by congr 1;symm;rw [decide_eq_false_iff_not];intro hh;omega,hI⟩
 intro hgt;replace hgt:=gtr_f hgt;clear hE a;intro a hE;refine go 9 hE hI ?_;clear hE a;intro a hE;refine c_loop (X:=Nat) (fun x=> [(0,_),(1,_),(2,_),(7, .int .i64 (x:Nat))]) (fun x w=>x≤l.length∧(∀k∈l.take x,(k.length:Int)≤long)∧Inv w0 D ss w) (fun x=>l.length - x) 0 (hE.pick [0,1,2,7]) ⟨Nat.zero_le _,by simp,hI⟩ ?_;clear hE hI a w;rintro i a w hE ⟨hi,hall,hI⟩;(try dsimp only at hE);(try dsimp only at hi);(try dsimp only at hall);(try dsimp only at hI);refine go 4 hE hI ?_;clear hE a;intro a hE;refine zs hE (p_len rfl rfl Tryz.underlying23) ?_;clear hE a;intro a hE;refine l_step rfl (o_cmp hE rfl rfl rfl rfl rfl rfl ?_ ?_)
 ·intro hlt;replace hlt:=lss_t hlt;clear hE a;intro a hE;refine go 9 hE hI ?_;clear hE a;intro a hE;obtain ⟨x_3,hx_3⟩: ∃z9,(l)[i]? =some z9:=⟨_,List.getElem?_eq_getElem (by omega)⟩;obtain ⟨b_3,o_3,cs_3,T_3,fr_3,rfl,hb_3,hat_3⟩:=hl.at_ (by intro h0;rw [h0] at hx_3;simp at hx_3);obtain ⟨vs_3,hl_3,⟨k_3,rfl,hk_3⟩,hex_3,hsz_3,hce_3⟩:=hat_3.extract hx_3 (by omega);obtain ⟨A4,c5,rfl,_⟩:=hk_3.slice;refine zs hE (p_indexAddr (m:=o_3+i*1) rfl rfl Tryz.underlying23 sz_33 (by omega) (by omega) (by simp)) ?_;clear hE a;intro a hE;refine zl hE (r_load rfl scal_33 (hI.data _ _ (hb_3)) (hce_3 0 _ rfl)) ?_;clear hE a;intro a hE;refine zs hE (p_len rfl rfl Tryz.underlying33) ?_;clear hE a;intro a hE;refine zm hE ?_;clear hE a;intro a hE;refine l_step rfl (o_cmp hE rfl rfl rfl rfl rfl rfl ?_ ?_)
  ·intro hlong;replace hlong:=gtr_t hlong;clear hE a;intro a hE;refine go 11 hE hI ?_;clear hE a;intro a hE;refine ret1 rfl hE rfl ?_;exact ⟨by congr 1;symm;rw [decide_eq_false_iff_not];intro hh;have:=hh.2 x_3 (List.mem_of_getElem? hx_3);omega,hI⟩
  intro hlong;replace hlong:=gtr_f hlong;clear hE a;intro a hE;refine go 7 hE hI ?_;clear hE a;intro a hE;refine zs hE (p_arith (z:=((i+1:Nat):Int)) rfl rfl (add_z (by omega) (by omega) (by omega))) ?_;clear hE a;intro a hE;refine go 2 hE hI ?_;clear hE a;intro a hE;exact ⟨i+1,hE.pick [0,1,2,7],⟨by show i+1≤_;omega,fun k hk=>by
    rw [List.take_add_one,hx_3] at hk;rcases List.mem_append.1 hk with q|q
    ·exact hall k q
    have:k=x_3:=by simpa using q
    subst this;omega,hI⟩,by show l.length - (i+1)<l.length - i;omega⟩
 intro hlt;replace hlt:=lss_f hlt;clear hE a;intro a hE;refine go 11 hE hI ?_;clear hE a;intro a hE;refine ret1 rfl hE rfl ?_;exact ⟨by congr 1;symm;rw [decide_eq_true_eq];exact ⟨by omega,fun k hk=>hall k (by rw [List.take_of_length_le (by omega)];exact hk)⟩,hI⟩
open Go Go.Deep Go.ChangeShapes Go.WideShapes Go.ChangeAt Go.RowKit
section
variable {H:Type} {enc:TypeId×Value→H} {P:Program} {W:World}
theorem open_rowsT {base:Nat} {spare:Nat→Bool} {held:Bool} {fuel:Nat} {t e q:TypeId} {v:Value} {y:DataW H×List MemPlace} (ht:P.underlying t=some (.slice e)) (he:P.underlying e=some (.slice q)) (hq:P.underlying q=some (.int .u8)) (ce:P.cellsOf e=1) (cq:P.cellsOf q=1)
    (hf:DataW.trod enc P W base spare held fuel t [v]=some y): ∃l:List Bs,DR 1 BsR (fun b=>W.heap[b]?) v l∧l.length≤maxLen:=by
  rcases open_slice1 ht ce hf with ⟨hcs,_⟩|⟨x,len,cap,m,n,V,D,Pl,hcs,_,hl,hm,hmm,_,hel⟩
  ·obtain rfl:v= .slice none 0 0:=by simpa using hcs
   exact ⟨[],DR.nil 1 BsR _,by simp [maxLen]⟩
  ·obtain rfl:v= .slice (some x) len cap:=by simpa using hcs
   have hlm:len≤m:=by rw [hmm];split<;>omega
   obtain ⟨f,hfv⟩: ∃f:Nat→Bs,∀i,i<m→RB (fun b=>W.heap[b]?) (V i) (f i):=by refine ⟨fun i=>if h:i<m then (open_bytesT he hq cq (hel i h).2).choose else [],fun i h=> ?_⟩;simp only [dif_pos h];exact (open_bytesT he hq cq (hel i h).2).choose_spec.1
   have hln:((List.range len).map f).length=len:=by simp
   refine ⟨(List.range len).map f,⟨some x,cap,by rw [hln],by rw [hln];exact hl,by simp,fun hne=> ?_⟩,by rw [hln];omega⟩;have hlen:0<len:=by
     rcases Nat.eq_zero_or_pos len with h0|h0
     ·subst h0;simp at hne
     ·exact h0
   have h0:=(hel 0 (by omega)).1;obtain ⟨b,off,sp⟩:=x;have hsp:sp=none:=by
     cases sp with
     |none=>rfl
     |some z=>
       simp only [World.cell?,Addr.add] at h0;split at h0<;>simp at h0
   subst hsp;rw [add_plain] at h0;simp only [World.cell?,Nat.add_zero] at h0;split at h0
   ·rename_i cs T fr hb;refine ⟨b,off,cs,T,fr,rfl,hb,fun i y hy=> ?_⟩;have hi:i<len:=by
      have:=(List.getElem?_eq_some_iff.1 hy).1;rw [hln] at this;exact this
    have hyf:y=f i:=by rw [List.getElem?_map,List.getElem?_range hi] at hy;simpa using hy.symm
    subst hyf;have h1:=(hel i (by omega)).1;rw [add_plain] at h1;simp only [World.cell?] at h1;rw [hb] at h1;have h2:cs[off+i]? =some (V i):=by simpa using h1
    refine ⟨[V i],rfl,⟨V i,rfl,hfv i (by omega)⟩,fun j u hj=> ?_⟩;cases j with
    |zero=>simp at hj;subst hj;simpa using h2
    |succ j=>simp at hj
   ·cases h0
theorem open_rows {b0 base:Nat} {spare:Nat→Bool} {held:Bool} {t e q:TypeId} {v:Value} {d:DataW H} {ps:List MemPlace} (ht:P.underlying t=some (.slice e)) (he:P.underlying e=some (.slice q)) (hq:P.underlying q=some (.int .u8)) (ce:P.cellsOf e=1) (cq:P.cellsOf q=1)
    (hv:Value.okWide P W .any b0 t v) (h:DataW.Trod enc P W base spare held t v d ps): ∃l:List Bs,DR 1 BsR (fun b=>W.heap[b]?) v l∧l.length≤maxLen:=by
  obtain ⟨a,len,cap,rfl⟩:=okWide_slice ht hv;obtain ⟨fuel,hf⟩:=h;exact open_rowsT ht he hq ce cq hf
end
end Go.Proofs.YtkknmpkcfpdllaaGreatDoor.B
