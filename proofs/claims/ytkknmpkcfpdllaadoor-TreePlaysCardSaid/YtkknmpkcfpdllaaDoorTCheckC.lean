/- What functions of the program compute, each function once: steps over the model, and the plain law of it. -/
import Derived.Test.YtkknmpkcfpdllaaDoorTCheckP
import Derived.Test.YtkknmpkcfpdllaaDoorTTreeChain
import Derived.Test.YtkknmpkcfpdllaaDoorSOrow
namespace Go.Proofs.YtkknmpkcfpdllaaDoor.B
open Go Go.Proofs
set_option linter.unusedVariables false
set_option linter.unusedSimpArgs false
def LC:List Pg→Int→Int→Prop
 | [],_,_=>False
 | [x],fl,nx=>x.id=fl∧x.next=nx
 |x::y::r,fl,nx=>x.id=fl∧x.next=y.id∧LC (y::r) y.id nx
theorem LC.append {L2:List Pg} {md nx:Int} (h2:LC L2 md nx): ∀(L1:List Pg) {fl:Int},LC L1 fl md→LC (L1++L2) fl nx
 | [],_,h=>h.elim
 | [x],fl,h=>by
  cases L2 with
  |nil=>exact h2.elim
  |cons y r=>
   have hy:y.id=md:=by cases r<;>exact h2.1
   exact ⟨h.1,by rw [h.2,hy],by rw [hy];exact h2⟩
 |x::y::r,fl,h=>⟨h.1,h.2.1,LC.append h2 (y::r) h.2.2⟩
theorem LC.chain: ∀(L:List Pg) {fl:Int},LC L fl (-1)→chainOk L=true
 | [],_,h=>h.elim
 | [x],_,h=>by simp [chainOk,h.2]
 |x::y::r,_,h=>by rw [chainOk,LC.chain (y::r) h.2.2,h.2.1];simp
theorem Chs.tails {C:CP}: ∀(es:Ens) {lo hi fl nx ids kv},Chs C es lo hi fl nx ids kv→Sorted es.tail∧ ∀e∈es.tail,ltB lo e.1=true∧below e.1 hi
 | [],_,_,_,_,_,_,h=>h.elim
 | [e],_,_,_,_,_,_,_=>⟨List.Pairwise.nil,by simp⟩
 |e::e2::r,lo,hi,_,_,_,_,h=>by
  obtain ⟨h0,h1,h2,md,i1,i2,k1,k2,rfl,rfl,h3,h4⟩:=h;have ih:=Chs.tails (e2::r) h4;refine ⟨List.pairwise_cons.2 ⟨fun x hx=>(ih.2 x hx).1,ih.1⟩,fun x hx=> ?_⟩;rcases List.mem_cons.1 hx with rfl|hx
  ·exact ⟨h1,h2⟩
  exact ⟨ltB_trans h1 (ih.2 x hx).1,(ih.2 x hx).2⟩
theorem ltB_ne {a b:Bs} (h:ltB a b=true):b≠ []:=by rintro rfl;cases a<;>simp [ltB] at h
theorem ltB_nil {b:Bs} (h:b≠ []):ltB [] b=true:=by cases b with|nil=>exact absurd rfl h|cons x r=>rfl
theorem ents_leaf {lo:Bs} {hi:Option Bs} {kv:Ens} (hs:Sorted kv) (h: ∀e∈kv,e.1≠ []∧InR lo hi e.1):entsOk 0 lo hi kv=true:=by
 rw [entsOk_iff];intro i hi';have he:kv[i]? =some kv[i]:=List.getElem?_eq_getElem hi';have hm:=h _ (List.getElem_mem hi');refine (entB_rest (by omega) he).2 ⟨hm.1,hm.2.1,fun h0 hh=> ?_,fun h0 p hp=> ?_⟩
 ·subst hh;exact hm.2.2
 obtain ⟨hp1,rfl⟩:=List.getElem?_eq_some_iff.1 hp;exact List.pairwise_iff_getElem.1 hs (i - 1) i hp1 hi' (by omega)
theorem ents_node {C:CP} {n:Nat} {x:Pg} {lo hi fl nx js kv} (hx: ∃v r,x.ents=([],v)::r) (h:Chs C x.ents lo hi fl nx js kv):entsOk ((n+1:Nat):Int) lo hi x.ents=true:=by
 obtain ⟨v,r,hx⟩:=hx;have ht:=Chs.tails _ h;rw [hx] at ht ⊢;rw [entsOk_iff];intro i hi';cases i with
 |zero=>exact (entB_first (by omega) rfl).2 rfl
 |succ i=>
  have hi2:i<r.length:=by simpa using hi'
  have he:(([],v)::r:Ens)[i+1]? =some r[i]:=by rw [List.getElem?_cons_succ];exact List.getElem?_eq_getElem hi2
  have hm:=ht.2 _ (List.getElem_mem hi2);refine (entB_rest (by omega) he).2 ⟨ltB_ne hm.1,ltB_asymm hm.1,fun h0 hh=>by subst hh;exact hm.2,fun _ p hp=> ?_⟩;cases i with
  |zero=>
   simp only [Nat.add_sub_cancel] at hp;obtain rfl:([],v)=p:=by simpa using hp
   exact ltB_nil (ltB_ne hm.1)
  |succ i=>
   have hp2:r[i]? =some p:=by simpa using hp
   obtain ⟨hp1,rfl⟩:=List.getElem?_eq_some_iff.1 hp2;exact List.pairwise_iff_getElem.1 ht.1 i (i+1) hp1 hi2 (by omega)
def Went (r:Res Ck) (c:Ck) (ids:List Int) (fl nx:Int) (kv:Ens):Prop:= ∃S L,r= .ok ⟨S++c.seen,c.leaves++L,c.keys+(kv.length:Nat)⟩∧S.Perm ids∧LC L fl nx
theorem below_chs {C:CP} {w:Int→Bs→Option Bs→Ck→Res Ck} {x:Pg} {low:Bs} {hi:Option Bs}
  (hw: ∀id lo hi fl nx js kv c,C id lo hi fl nx js kv→js.Nodup→(∀j∈js,j ∉ c.seen)→Went (w id lo hi c) c js fl nx kv): ∀(es:Ens) (i:Nat) (c:Ck) {lo:Bs} {fl nx:Int} {ids:List Int} {kv:Ens},x.ents.drop i=es→lo=(if 0<i then (x.ents.getD i ([], [])).1 else low)→
  Chs C es lo hi fl nx ids kv→ids.Nodup→(∀j∈ids,j ∉ c.seen)→Went (belowL w x low hi es.length i c) c ids fl nx kv
 | [],i,c,_,_,_,_,_,_,_,h,_,_=>h.elim
 | [e],i,c,lo,fl,nx,ids,kv,hd,hlo,h,hn,hf=>by
  have hi1:i<x.ents.length:=by
   rcases Nat.lt_or_ge i x.ents.length with h|h
   ·exact h
   rw [List.drop_of_length_le h] at hd;cases hd
  have hlen:x.ents.length=i+1:=by have:=congrArg List.length hd;rw [List.length_drop] at this;simp at this;omega
  have he:x.ents.getD i ([], [])=e:=by
   have:x.ents[i]? =some e:=by
    have h9:(x.ents.drop i)[0]? =some e:=by rw [hd];rfl
    rwa [List.getElem?_drop] at h9
   simp [List.getD,this]
  have ha:atP x i= .ok (numberP e.2):=by rw [atP,if_neg (by omega)];simp only [Int.toNat_natCast,he];rw [if_neg (by rw [h.1];simp)]
  obtain ⟨S,L,h1,h2,h3⟩:=hw _ _ _ _ _ _ _ c h.2 hn hf;refine ⟨S,L, ?_,h2,h3⟩;show belowL w x low hi 1 i c=_;rw [belowL,ha];simp only [];rw [←hlo,if_neg (by omega),h1];rfl
 |e::e2::r,i,c,lo,fl,nx,ids,kv,hd,hlo,h,hn,hf=>by
  obtain ⟨h0,h1,h2,md,i1,i2,k1,k2,rfl,rfl,h3,h4⟩:=h;have hlen:x.ents.length=i+(r.length+2):=by have:=congrArg List.length hd;rw [List.length_drop] at this;simp at this;omega
  have hat: ∀j y,(e::e2::r)[j]? =some y→x.ents.getD (i+j) ([], [])=y:=fun j y hy=>by
   have h9:(x.ents.drop i)[j]? =some y:=by rw [hd];exact hy
   rw [List.getElem?_drop] at h9;simp [List.getD,h9]
  have he:=hat 0 e rfl;have he2:=hat 1 e2 rfl;rw [Nat.add_zero] at he;have ha:atP x i= .ok (numberP e.2):=by rw [atP,if_neg (by omega)];simp only [Int.toNat_natCast,he];rw [if_neg (by rw [h0];simp)]
  have hnd:=List.nodup_append.1 hn;obtain ⟨S1,L1,a1,a2,a3⟩:=hw _ _ _ _ _ _ _ c h3 hnd.1 (fun j hj=>hf j (by simp [hj]));have hd2:x.ents.drop (i+1)=e2::r:=by rw [←List.drop_drop,hd];rfl
  obtain ⟨S2,L2,b1,b2,b3⟩:=below_chs hw (e2::r) (i+1) ⟨S1++c.seen,c.leaves++L1,c.keys+(k1.length:Nat)⟩ (low:=low) (lo:=e2.1) hd2 (by rw [if_pos (by omega),he2]) h4 hnd.2.1 (fun j hj hm=>by
   rcases List.mem_append.1 hm with hm|hm
   ·exact hnd.2.2 j (a2.mem_iff.1 hm) j hj rfl
   exact hf j (by simp [hj]) hm)
  refine ⟨S2++S1,L1++L2, ?_, ?_,LC.append b3 L1 a3⟩
  ·show belowL w x low hi ((e2::r).length+1) i c=_;rw [belowL,ha];simp only [];rw [←hlo,if_pos (by omega),he2,a1];simp only [];rw [b1];simp only [List.append_assoc,List.length_append,Int.natCast_add];congr 2;omega
  exact (List.perm_append_comm).trans (a2.append b2)
theorem walk_sub {b:Bt}: ∀(n f:Nat) {id lo hi fl nx ids kv} (c:Ck),n+1≤f→IdsOk b.view→SubT b.view n id lo hi fl nx ids kv→ids.Nodup→(∀j∈ids,j ∉ c.seen)→Went (b.walkF f id n lo hi c) c ids fl nx kv
 |n,0,_,_,_,_,_,_,_,_,hf,_,_,_,_=>by omega
 |0,f+1,id,lo,hi,fl,nx,ids,kv,c,_,hi0,h,hn,hfr=>by
  obtain ⟨rfl,rfl,x,hx,hl,rfl,rfl,h8,hs,hk⟩:=h;refine ⟨[fl], [x], ?_,List.Perm.refl _,hi0 _ _ hx,rfl⟩;rw [show ((0:Nat):Int)=0 from rfl,walk_leaf (x:=x) (by rintro (q|q);exact hfr fl (by simp) q;omega) (page_of_view hx) (by rintro (q|⟨q,_⟩);exact q hl;omega) (ents_leaf hs hk) rfl];rfl
 |n+1,f+1,id,lo,hi,fl,nx,ids,kv,c,hnf,hi0,h,hn,hfr=>by
  obtain ⟨js,rfl,x,hx,hl,hnx,h8,hfst,hch⟩:=h;have hn2:=List.nodup_cons.1 hn;have hne:x.ents≠ []:=by obtain ⟨v,r,h⟩:=hfst;rw [h];simp
  rw [walk_below (x:=x) (by rintro (q|q);exact hfr id (by simp) q;omega) (page_of_view hx) (by rintro (q|⟨_,q⟩);exact q hl;exact hne q) (ents_node hfst hch) (by omega)];rw [Bt.belowF,if_neg (by omega)];have hlv:x.level - 1=(n:Int):=by omega
  obtain ⟨S,L,h1,h2,h3⟩:=below_chs (w:=fun id low high c=>b.walkF f id (x.level - 1) low high c) (x:=x) (low:=lo) (hi:=hi) (fun id lo hi fl nx js kv c hc hnd hfr=>by
   rw [hlv];exact walk_sub n f c (by omega) hi0 hc hnd hfr) x.ents 0 ⟨id::c.seen,c.leaves,c.keys⟩ rfl (by simp) hch hn2.2 (fun j hj hm=>by
   rcases List.mem_cons.1 hm with rfl|hm
   ·exact hn2.1 hj
   exact hfr j (by simp [hj]) hm)
  refine ⟨S++ [id],L, ?_, ?_,h3⟩
  ·rw [h1];simp
  exact (List.perm_append_comm).trans (h2.cons id)
def HighV (D:Sto) (v:Value) (high:Option Bs):Prop:= ∃A n c,v= .slice A n c∧RB D v (high.getD [])∧(A=none↔high=none)
theorem HighV.mono {D D':Sto} {v:Value} {high:Option Bs} (h:HighV D v high) (hD:Le D D'):HighV D' v high:=by obtain ⟨A,n,c,h1,h2,h3⟩:=h;exact ⟨A,n,c,h1,h2.mono hD,h3⟩
theorem HighV.none (D:Sto):HighV D (.slice Option.none 0 0) Option.none:=⟨_,_,_,rfl,RB.nil D,by simp⟩
theorem HighV.key {D:Sto} {v:Value} {k:Bs} (h:RB D v k) (hk:k≠ []):HighV D v (Option.some k):=by
 obtain ⟨A,c,rfl,hc,hlt,hA,hat⟩:=h;refine ⟨A,_,c,rfl,⟨A,c,rfl,hc,hlt,hA,hat⟩, ?_⟩;cases A with
 |none=>
  have:=hA rfl;have hl:k.length=0:=by omega
  exact absurd (List.length_eq_zero_iff.1 hl) hk
 |some a=>simp
def CkPost (w0:World) (D:Sto) (ss:List Seg) (bc bs:Nat) (vb vp:Value) (P:Pl) (b:Bt) (ad:Nat→Addr) (res:Res Ck) (r:Value) (w':World):Prop:=
 (∃c,res= .ok c∧r= .nilIface∧CkOk c∧ ∃D' es clk vl sl s,Le D D'∧IntMap es clk (seenM c.seen)∧OR 5 PgR D' 84 vl c.leaves sl∧TreeS D' vb vp b P s∧Inv w0 D' ([(bc, .cells #[vb, .map (some bs),vl, .int .i64 c.keys] 102 (0,0))]:: [(bs, .map es clk)]::sl::s::ss) w')∨
 (∃e o,res= .fail e o∧r=errV ad e∧ ∃D' s,Le D D'∧TreeS D' vb vp b (P.after o) s∧Inv w0 D' (s::ss) w')
def WalkAt (b:Bt) (f:Nat):Prop:= ∀{w0 w:World} {D:Sto} {ss:List Seg} {s sl:Seg} {vb vp vl vlow vhigh:Value} {P:Pl} {bc bs:Nat} {es:Array MapEntry} {clk:Nat} {c:Ck} {ad:Nat→Addr} {id level:Int} {low:Bs} {high:Option Bs},
 Inv w0 D ([(bc, .cells #[vb, .map (some bs),vl, .int .i64 c.keys] 102 (0,0))]:: [(bs, .map es clk)]::sl::s::ss) w→TSents D ad→TreeS D vb vp b P s→IntMap es clk (seenM c.seen)→OR 5 PgR D 84 vl c.leaves sl→CkOk c→RB D vlow low→HighV D vhigh high→level<f→
  Calls Tryd.prog 49 #[.pointer (some ⟨bc,0,none⟩), .int .i64 id, .int .i64 level,vlow,vhigh] w (Ret fun r w'=>CkPost w0 D ss bc bs vb vp P b ad (b.walkF f id level low high c) r w')
theorem belowL_step {w:Int→Bs→Option Bs→Ck→Res Ck} {x:Pg} {low:Bs} {high:Option Bs} {i:Nat} {c:Ck} {id:Int} (hi:i<x.ents.length) (ha:atP x i= .ok id) :
  belowL w x low high (x.ents.length - i) i c=match w id (if 0<i then (x.ents.getD i ([], [])).1 else low) (if i+1<x.ents.length then some (x.ents.getD (i+1) ([], [])).1 else high) c with
   | .fail e o=> .fail e o
   | .ok c=>belowL w x low high (x.ents.length - (i+1)) (i+1) c:=by
 obtain ⟨n,hn⟩: ∃n,x.ents.length - i=n+1:=⟨x.ents.length - i - 1,by omega⟩;rw [hn,belowL,ha];have:x.ents.length - (i+1)=n:=by omega
 rw [this];rfl
theorem belowL_fail {w:Int→Bs→Option Bs→Ck→Res Ck} {x:Pg} {low:Bs} {high:Option Bs} {i:Nat} {c:Ck} {e:Nat} {o:Option Int} (hi:i<x.ents.length) (ha:atP x i= .fail e o) :
  belowL w x low high (x.ents.length - i) i c= .fail e o:=by
 obtain ⟨n,hn⟩: ∃n,x.ents.length - i=n+1:=⟨x.ents.length - i - 1,by omega⟩;rw [hn,belowL,ha]
theorem c_cutB {P:Program} {Q:Exit→Act→World→Prop} {N:Nat} {env:Env} {a:Act} {w:World} {x y:Code} (slots:List Nat) (d:Nat) (W:Bool→World→Prop) (hE:EnvOk N env a)
  (h:x.wp P (Exit.then (fun a' w'=> ∃b:Bool,EnvOk N ((d, .bool b)::pick env slots) a'∧W b w') Q) a w)
  (k: ∀(b:Bool) a' w',EnvOk N ((d, .bool b)::pick env slots) a'→W b w'→y.wp P Q a' w'):(Code.seq x y).wp P Q a w:=
 wp_seq (wp_mono h fun e a' w' q=>by
  cases e<;>first|exact q|(obtain ⟨b,hE',hW⟩:=q;exact k b a' w' hE' hW))
end Go.Proofs.YtkknmpkcfpdllaaDoor.B
