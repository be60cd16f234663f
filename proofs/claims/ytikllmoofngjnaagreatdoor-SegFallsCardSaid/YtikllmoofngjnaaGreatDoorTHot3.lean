/- What functions of the program compute, each function once: steps over the model, and the plain law of it. -/
import Derived.Test.YtikllmoofngjnaaGreatDoorTHot2
import Derived.Test.YtikllmoofngjnaaGreatDoorTFacts
namespace Go.Proofs.YtikllmoofngjnaaGreatDoor.B
open Go Go.Proofs
set_option linter.unusedVariables false
set_option linter.unusedSimpArgs false
set_option maxRecDepth 20000
set_option maxHeartbeats 8000000
theorem lo_step {l:List Rc} {h:Nat} {x:Rc} {n:Int} (hs:RisesR l) (hx:l[h]? =some x) (hlt:x.lsn<n) (k:Nat) (y:Rc) (hk:k<h+1) (hy:l[k]? =some y):y.lsn<n:=by
 obtain ⟨h1,e1⟩:=List.getElem?_eq_some_iff.1 hx;obtain ⟨h2,e2⟩:=List.getElem?_eq_some_iff.1 hy;rcases Nat.lt_or_eq_of_le (Nat.le_of_lt_succ hk) with q|rfl
 ·have:=List.pairwise_iff_getElem.1 hs k h h2 h1 q;rw [e1,e2] at this;omega
 rw [hx] at hy;injection hy with hy;rw [<-hy];exact hlt
theorem hi_step {l:List Rc} {h:Nat} {x:Rc} {n:Int} (hs:RisesR l) (hx:l[h]? =some x) (hge:n<=x.lsn) (k:Nat) (y:Rc) (hk:h<=k) (hy:l[k]? =some y):n<=y.lsn:=by
 obtain ⟨h1,e1⟩:=List.getElem?_eq_some_iff.1 hx;obtain ⟨h2,e2⟩:=List.getElem?_eq_some_iff.1 hy;rcases Nat.lt_or_eq_of_le hk with q|rfl
 ·have:=List.pairwise_iff_getElem.1 hs h k h1 h2 q;rw [e1,e2] at this;omega
 rw [hx] at hy;injection hy with hy;rw [<-hy];exact hge
def hasR (l:List Rc) (n:Int):Bool:=l.any fun x=>decide (x.lsn=n)
theorem plR_is {l:List Rc} {i:Nat} {n:Int} (h1: ∀(k:Nat) (y:Rc),k<i->l[k]? =some y->y.lsn<n) (h2: ∀(k:Nat) (y:Rc),i<=k->l[k]? =some y->n<=y.lsn) (hi:i<=l.length):plR l n=i:=by
 rcases Nat.lt_trichotomy (plR l n) i with q|q|q
 ·have hx:l[plR l n]? =some l[plR l n]:=List.getElem?_eq_getElem (by omega);have a:=h1 _ _ q hx;have b:=plR_at hx;omega
 ·exact q
 have hil:i<l.length:=by have:=plR_le l n;omega
 have hx:l[i]? =some l[i]:=List.getElem?_eq_getElem hil;have a:=h2 _ _ (Nat.le_refl _) hx;have b:=plR_lt q hx;omega
theorem hasR_end {l:List Rc} {i:Nat} {n:Int} (h1: ∀(k:Nat) (y:Rc),k<i->l[k]? =some y->y.lsn<n) (hi: ¬i<l.length):hasR l n=false:=by refine List.any_eq_false.2 fun y hy=> ?_;obtain ⟨k,hk,he⟩:=List.getElem_of_mem hy;have:=h1 k y (by omega) (by rw [List.getElem?_eq_getElem hk,he]);simp only [decide_eq_true_eq];omega
theorem hasR_yes {l:List Rc} {i:Nat} {x:Rc} {n:Int} (hx:l[i]? =some x) (he:x.lsn=n):hasR l n=true:=List.any_eq_true.2 ⟨x,List.mem_of_getElem? hx,decide_eq_true he⟩
theorem hasR_no {l:List Rc} {i:Nat} {x:Rc} {n:Int} (hs:RisesR l) (h1: ∀(k:Nat) (y:Rc),k<i->l[k]? =some y->y.lsn<n) (hx:l[i]? =some x) (h2:n<=x.lsn) (hne:x.lsn≠n):hasR l n=false:=by
 refine List.any_eq_false.2 fun y hy=> ?_;obtain ⟨k,hk,he⟩:=List.getElem_of_mem hy;have hy':l[k]? =some y:=by rw [List.getElem?_eq_getElem hk,he]
 simp only [decide_eq_true_eq];by_cases q:k<i
 ·have:=h1 k y q hy';omega
 have:=hi_step (n:=x.lsn) hs hx (Int.le_refl _) k y (by omega) hy';omega
theorem shr1 {m:Nat}:((m:Nat):Int).fdiv (2^min (1:Int).toNat IntKind.u64.bits)=((m / 2:Nat):Int):=by have h:min (1:Int).toNat IntKind.u64.bits=1:=rfl;rw [h,Int.fdiv_eq_ediv_of_nonneg _ (by decide)];omega
theorem place1_spec {w0 w:World} {D:Sto} {ss:List Seg} (I:Inv w0 D ss w) {vr:Value} {x:Rc} (hr:RcV D vr x) (n:Int) :
  Calls Tryz.prog 102 #[vr, .int .i64 n] w (Ret fun r w'=> ∃z,r= .int .i64 z/\(z<0↔x.lsn<n)/\(z=0↔x.lsn=n)/\Inv w0 D ss w'):=by
 obtain ⟨k1,v2,rfl,hk3,hv4,ho5⟩:=hr;obtain ⟨A6,c7,rfl,_⟩:=hk3.slice;obtain ⟨A8,c9,rfl,_⟩:=hv4.slice;refine enter (N:=15) Tryz.func102 rfl rfl rfl ?_;intro a Z;refine wsr ?_;refine l_step rfl (f_box (cs:= #[_,_,_,_,_,_,_,_,_,_]) Z I rfl rfl rfl rfl rfl ?_);clear I Z a w;intro a b10 w Z I;refine go 8 Z I ?_;clear Z a;intro a Z;refine cmx Z ?_ ?_
 ·intro q1;replace q1:=lss_t q1;clear Z a;intro a Z;refine go 9 Z I ?_;clear Z a;intro a Z;refine rt1 Z ?_;exact ⟨_,rfl,by omega,by omega,I.drop⟩
 intro q1;replace q1:=lss_f q1;clear Z a;intro a Z;refine go 7 Z I ?_;clear Z a;intro a Z;refine cmx Z ?_ ?_
 ·intro q2;replace q2:=gtr_t q2;clear Z a;intro a Z;refine go 9 Z I ?_;clear Z a;intro a Z;refine rt1 Z ?_;exact ⟨_,rfl,by omega,by omega,I.drop⟩
 intro q2;replace q2:=gtr_f q2;clear Z a;intro a Z;refine go 10 Z I ?_;clear Z a;intro a Z;refine rt1 Z ?_;exact ⟨_,rfl,by omega,by omega,I.drop⟩
theorem place1_call {w0 w:World} {D:Sto} {ss:List Seg} (I:Inv w0 D ss w) {vr:Value} {x:Rc} (hr:RcV D vr x) (n:Int) :
  Calls Tryz.prog 102 (#[]++ #[vr, .int .i64 n]++ #[]) w (Ret fun r w'=> ∃z,r= .int .i64 z/\(z<0↔x.lsn<n)/\(z=0↔x.lsn=n)/\Inv w0 D ss w'):=by
 have:=place1_spec I hr n;simpa using this
theorem BSearch_spec {w0 w:World} {D:Sto} {ss:List Seg} (I:Inv w0 D ss w) {v:Value} {l:List Rc} (hl:DR 10 RcR D v l) (hlm:l.length<=1000000) (hs:RisesR l) (n:Int) :
  Calls Tryz.prog 101 #[v, .int .i64 n, .func (.func 102) #[] #[]] w (Ret fun r w'=>r= .tuple #[.int .i64 (plR l n:Nat), .bool (hasR l n)]/\Inv w0 D ss w'):=by
 obtain ⟨A1,c2,rfl,_⟩:=hl.slice;refine enter (N:=49) Tryz.func101 rfl rfl rfl ?_;intro a Z;refine go 6 Z I ?_;clear Z a;intro a Z;refine zs Z (p_len rfl rfl Tryz.underlying30) ?_;clear Z a;intro a Z;refine go 9 Z I ?_;clear Z a;intro a Z;refine c_loop (X:=Nat×Nat) (fun x=> [(0,_),(1,_),(2,_),(8,_),(9, .int .i64 (x.1:Nat)),(10, .int .i64 (x.2:Nat))]) (fun x w=>x.1<=x.2/\x.2<=l.length/\(∀(k:Nat) (y:Rc),k<x.1->l[k]? =some y->y.lsn<n)/\(∀(k:Nat) (y:Rc),x.2<=k->l[k]? =some y->n<=y.lsn)/\Inv w0 D ss w) (fun x=>x.2 - x.1) (0,l.length) (Z.pick [0,1,2,8,9,10]) ⟨Nat.zero_le _,Nat.le_refl _,fun k y hk=>absurd hk (Nat.not_lt_zero _),fun k y hk hy=>absurd (List.getElem?_eq_some_iff.1 hy).1 (by show¬k<l.length;exact Nat.not_lt.2 hk),I⟩ ?_;clear Z I a w;rintro ⟨i,j⟩ a w Z ⟨hij,hj,hlo,hhi,I⟩;(try dsimp only at Z);(try dsimp only at hij);(try dsimp only at hj);(try dsimp only at hlo);(try dsimp only at hhi);(try dsimp only at I);refine go 4 Z I ?_;clear Z a;intro a Z;refine cmx Z ?_ ?_
 ·intro hlt;replace hlt:=lss_t hlt;clear Z a;intro a Z;refine go 8 Z I ?_;clear Z a;intro a Z;refine zs Z (p_arith (z:=((i+j:Nat):Int)) rfl rfl (add_z (by omega) (by omega) (by omega))) ?_;clear Z a;intro a Z;refine zs Z (p_int (z:=((i+j:Nat):Int)) Tryz.underlying3 Tryz.underlying64 rfl (IntWalk.u64_in _ ⟨by omega,by omega⟩)) ?_;clear Z a;intro a Z;refine zs Z (p_shr (z:=((((i+j) / 2):Nat):Int)) rfl rfl (by omega) (shr1)) ?_;clear Z a;intro a Z;refine zs Z (p_int (z:=((((i+j) / 2):Nat):Int)) Tryz.underlying64 Tryz.underlying3 rfl (IntWalk.i64_in _ ⟨by omega,by omega⟩)) ?_;clear Z a;intro a Z;refine go 2 Z I ?_;clear Z a;intro a Z;refine wp_seq ?_;obtain ⟨m,hm⟩: ∃m,(i+j) / 2=m:=⟨_,rfl⟩;rw [hm] at Z;refine go 4 Z I ?_;clear Z a;intro a Z;obtain ⟨x_3,hx_3⟩: ∃z9,(l)[m]? =some z9:=⟨_,List.getElem?_eq_getElem (by omega)⟩;obtain ⟨b_3,o_3,cs_3,T_3,fr_3,rfl,hb_3,hat_3⟩:=hl.at_ (by intro h0;rw [h0] at hx_3;simp at hx_3);obtain ⟨vs_3,hl_3,⟨k_3,v_3,rfl,hk_3,hv_3,hok_3⟩,hex_3,hsz_3,hce_3⟩:=hat_3.extract hx_3 (by omega);obtain ⟨A4,c5,rfl,_⟩:=hk_3.slice;obtain ⟨A6,c7,rfl,_⟩:=hv_3.slice;refine zs Z (p_indexAddr (m:=o_3+m*10) rfl rfl Tryz.underlying30 sz_42 (by omega) (by omega) (by simp)) ?_;clear Z a;intro a Z;refine zl Z (r_loadA rfl agg_42 (I.data _ _ (hb_3)) hsz_3 hex_3) ?_;clear Z a;intro a Z;refine zm Z ?_;clear Z a;intro a Z;refine l_step rfl (o_callv Z rfl rfl rfl rfl rfl rfl ent_102 (place1_call I ⟨_,_,rfl,hk_3,hv_3,hok_3⟩ n) ?_);clear I Z a;rintro r w ⟨z8,rfl,z8l,z8e,I⟩ a Z;refine cmx Z ?_ ?_
  ·intro hcz;replace hcz:=lss_t hcz;clear Z a;intro a Z;refine go 4 Z I ?_;clear Z a;intro a Z;refine zs Z (p_arith (z:=((m+1:Nat):Int)) rfl rfl (add_z (by omega) (by omega) (by omega))) ?_;clear Z a;intro a Z;refine za Z ?_;clear Z a;intro a Z;refine wpList_nil ?_;refine gc 2 Z ?_;exact ⟨(m+1,j),Z.pick [0,1,2,8,9,10],⟨by show m+1<=j;omega,hj,lo_step hs hx_3 (z8l.1 hcz),hhi,I⟩,by show j - (m+1)<j - i;omega⟩
  intro hcz;replace hcz:=lss_f hcz;clear Z a;intro a Z;refine go 5 Z I ?_;clear Z a;intro a Z;refine wpList_nil ?_;refine gc 2 Z ?_;exact ⟨(i,m),Z.pick [0,1,2,8,9,10],⟨by show i<=m;omega,by show m<=l.length;omega,hlo,hi_step hs hx_3 (by have:=mt z8l.2 (by omega);omega),I⟩,by show m - i<j - i;omega⟩
 intro hlt;replace hlt:=lss_f hlt;clear Z a;intro a Z;refine gc 7 Z ?_;refine wp_seq ?_;have hji:j=i:=by omega
 subst hji;have hpl:=plR_is hlo hhi hj;refine go 4 Z I ?_;clear Z a;intro a Z;refine cmx Z ?_ ?_
 ·intro hin;replace hin:=lss_t hin;clear Z a;intro a Z;refine go 4 Z I ?_;clear Z a;intro a Z;obtain ⟨x_9,hx_9⟩: ∃z9,(l)[j]? =some z9:=⟨_,List.getElem?_eq_getElem (by omega)⟩;obtain ⟨b_9,o_9,cs_9,T_9,fr_9,rfl,hb_9,hat_9⟩:=hl.at_ (by intro h0;rw [h0] at hx_9;simp at hx_9);obtain ⟨vs_9,hl_9,⟨k_9,v_9,rfl,hk_9,hv_9,hok_9⟩,hex_9,hsz_9,hce_9⟩:=hat_9.extract hx_9 (by omega);obtain ⟨A10,c11,rfl,_⟩:=hk_9.slice;obtain ⟨A12,c13,rfl,_⟩:=hv_9.slice;refine gs Z (p_indexAddr (m:=o_9+j*10) rfl rfl Tryz.underlying30 sz_42 (by omega) (by omega) (by simp)) ?_;clear Z a;intro a Z;refine gl Z (r_loadA rfl agg_42 (I.data _ _ (hb_9)) hsz_9 hex_9) ?_;clear Z a;intro a Z;refine gs Z (p_move rfl) ?_;clear Z a;intro a Z;refine l_go Z rfl (o_callv Z rfl rfl rfl rfl rfl rfl ent_102 (place1_call I ⟨_,_,rfl,hk_9,hv_9,hok_9⟩ n) ?_);clear I Z a;rintro r w ⟨z14,rfl,z14l,z14e,I⟩ a Z;refine cgx Z ?_ ?_
  ·intro hze;replace hze:=eql_t hze;clear Z a;intro a Z;refine go 5 Z I ?_;clear Z a;intro a Z;refine ret2 rfl Z rfl rfl ?_;rw [hpl,hasR_yes hx_9 (z14e.1 hze)];exact ⟨rfl,I⟩
  intro hze;replace hze:=eql_f hze;clear Z a;intro a Z;refine go 5 Z I ?_;clear Z a;intro a Z;refine ret2 rfl Z rfl rfl ?_;rw [hpl,hasR_no hs hlo hx_9 (hhi _ _ (Nat.le_refl _) hx_9) (fun e=>hze (z14e.2 e))];exact ⟨rfl,I⟩
 intro hin;replace hin:=lss_f hin;clear Z a;intro a Z;refine go 14 Z I ?_;clear Z a;intro a Z;refine ret2 rfl Z rfl rfl ?_;rw [hpl,hasR_end hlo (by omega)];exact ⟨rfl,I⟩
end Go.Proofs.YtikllmoofngjnaaGreatDoor.B
