/- What functions of the program compute, each function once: steps over the model, and the plain law of it. -/
import Derived.Test.YtkknmpkcfpdllaaGreatDoorTStrEq
import Derived.Test.YtkknmpkcfpdllaaGreatDoorTCheck
import Derived.Test.YtkknmpkcfpdllaaGreatDoorTTreeChain
import Derived.Test.YtkknmpkcfpdllaaGreatDoorTTree7
import Derived.Test.YtkknmpkcfpdllaaGreatDoorTPage
import Derived.Test.YtkknmpkcfpdllaaGreatDoorSLogB
import Derived.Test.YtkknmpkcfpdllaaGreatDoorSIter
import Derived.Test.YtkknmpkcfpdllaaGreatDoorTFacts
namespace Go.Proofs.YtkknmpkcfpdllaaGreatDoor.B
open Go Go.Proofs
set_option linter.unusedVariables false
set_option linter.unusedSimpArgs false
set_option maxRecDepth 20000
set_option maxHeartbeats 8000000
theorem CkOk.start:CkOk ⟨[1], [],0⟩:=⟨by simp,by intro i hi;simp only [List.mem_cons,List.not_mem_nil,or_false] at hi;omega,by simp,by simp,by simp⟩
theorem lit_data {w0 w:World} {D:Sto} {ss:List Seg} {b T:Nat} {fr:Nat×Nat} (bs:List Nat) (i:Nat) (hI:Inv w0 D ss w) (hi:ss[i]? =some [(b, .cells (bytesV bs).toArray T fr)]) (hb: ∀x∈bs,x<256) :
  ∃D',Le D D'∧Inv w0 D' (ss.eraseIdx i) w∧RB D' (.slice (some ⟨b,0,none⟩) bs.length bs.length) bs:=by
 obtain ⟨h1,h2⟩:=hI.shut_at i hi;exact ⟨_,h2,h1,RB.lit hb⟩
theorem Inv.part {w0 w:World} {D:Sto} {ss:List Seg} {s1 s2:Seg} (h:Inv w0 D ((s1++s2)::ss) w):Inv w0 D (s1::s2::ss) w:=h.perm (List.Perm.of_eq (by simp))
theorem BDel_ok {w0 w:World} {D:Sto} {ss:List Seg} {sb sp:Seg} {vb vp:Value} {b b':Bt} {P:Pl} {res:Bool} (hI:Inv w0 D (sb::sp::ss) w) {ad:Nat→Addr} (hS:TSents D ad) (hB:BatchS D vb vp b sb) (hP:PoolS D vp P sp) (hpool:b.pool=P.f) {vk:Value} {key:Bs} (hk:RB D vk key) (hlen:b.recs.length≤1000000000 - 8000) (hok:b.delete key= .ok (res,b')) :
  Calls Tryz.prog 41 #[vb,vk] w (Ret fun r w'=>r= .tuple #[.bool res, .nilIface]∧ ∃D' sb' sp',Le D D'∧BatchS D' vb vp b' sb'∧PoolS D' vp P sp'∧Inv w0 D' (sb'::sp'::ss) w'):=by
 refine (BDelete_spec hI.merge hS (TreeS.join hB hP hpool) hk hlen).mono fun e w' h=> ?_;obtain ⟨r,he,h⟩:=h;refine ⟨r,he, ?_⟩;rcases h with ⟨res1,b1,h1,rfl,D',s',hD,hT,hI'⟩|⟨c,o,h1,_⟩
 ·rw [hok] at h1;injection h1 with h1;injection h1 with h1 h2;subst h1;subst h2
  obtain ⟨sb',sp',rfl,hB',hP',_⟩:=hT;exact ⟨rfl,D',sb',sp',hD,hB',hP',hI'.parted⟩
 rw [hok] at h1;cases h1
theorem RB.at {D:Sto} {v:Value} {bs bs':List Nat} (h:RB D v bs) (e:bs=bs'):RB D v bs':=e▸h
theorem Inv.shut_one {w0 w:World} {D:Sto} {ss:List Seg} {b:Nat} {o:Obj} (h:Inv w0 D ([(b,o)]::ss) w): ∃D',Le D D'∧Inv w0 D' ss w∧D' b=some o:=
 ⟨_,h.le_shut,h.shut,Sto.put_one D b o⟩
def BsR (D:Sto) (vs:List Value) (x:Bs):Prop:= ∃v,vs= [v]∧RB D v x
theorem BsR.keeps:Keeps BsR:=fun D D' vs x hD h=>by obtain ⟨v,rfl,h⟩:=h;exact ⟨v,rfl,h.mono hD⟩
def SubF (C Q:Int→Option Pg):Prop:= ∀id x,Q id=some x→C id=some x∨C id=none
def Lacks (C Q:Int→Option Pg) (id:Int):Prop:=C id=none∧Q id≠none∧0≤id∧id<256
theorem cold_page {C Q:Pl} (h:SubF C.f Q.f) {id:Int} {x:Pg} (hp:(newBt Q).page id= .ok x):(newBt C).page id= .ok x∨((newBt C).page id= .fail 113 (some id)∧Lacks C.f Q.f id):=by
 simp only [Bt.page,newBt] at hp ⊢;split at hp
 ·cases hp
 rename_i hr;rw [if_neg hr];cases hq:Q.f id with
 |none=>rw [hq] at hp;cases hp
 |some y=>
  rw [hq] at hp;simp only [] at hp;rcases h id y hq with h1|h1
  ·rw [h1];exact .inl hp
  rw [h1];exact .inr ⟨rfl,h1,by simp [hq],by omega,by omega⟩
theorem cold_downF {C Q:Pl} (h:SubF C.f Q.f) {key:Bs}: ∀(n:Nat) (id:Int) (l:List Pg) (ks:List Nat) {r},(newBt Q).downF key n id l ks= .ok r→
  (newBt C).downF key n id l ks= .ok r∨ ∃j,(newBt C).downF key n id l ks= .fail 113 (some j)∧Lacks C.f Q.f j
 |0,id,l,ks,r,hq=>by rw [Bt.downF] at hq;cases hq
 |n+1,id,l,ks,r,hq=>by
  rw [Bt.downF] at hq;rw [Bt.downF];cases hp:(newBt Q).page id with
  |fail c o=>rw [hp] at hq;cases hq
  |ok x=>
   rw [hp] at hq;simp only [] at hq;rcases cold_page h hp with h1|⟨h1,h2⟩
   ·rw [h1];simp only [];split at hq
    ·rename_i hl;rw [if_pos hl];exact .inl hq
    rename_i hl;rw [if_neg hl];cases ha:atP x (childP x key) with
    |fail c o=>rw [ha] at hq;cases hq
    |ok id'=>rw [ha] at hq;simp only [] at hq ⊢;exact cold_downF h n id' _ _ hq
   rw [h1];exact .inr ⟨id,rfl,h2⟩
theorem cold_fromF {C Q:Pl} (h:SubF C.f Q.f) {key:Bs} {above:Bool}: ∀(n:Nat) (x:Pg) {r},(newBt Q).fromF key above n x= .ok r→
  (newBt C).fromF key above n x= .ok r∨ ∃j,(newBt C).fromF key above n x= .fail 113 (some j)∧Lacks C.f Q.f j
 |0,x,r,hq=> .inl hq
 |n+1,x,r,hq=>by
  rw [Bt.fromF] at hq;rw [Bt.fromF];by_cases h1:(if ((findP x.ents key).2 && above)=true then (findP x.ents key).1+1 else (findP x.ents key).1)<x.ents.length
  ·rw [if_pos h1] at hq ⊢;exact .inl hq
  rw [if_neg h1] at hq ⊢;by_cases h2:x.next= -1
  ·rw [if_pos h2] at hq ⊢;exact .inl hq
  rw [if_neg h2] at hq ⊢;cases hp:(newBt Q).page x.next with
  |fail c o=>rw [hp] at hq;cases hq
  |ok y=>
   rw [hp] at hq;simp only [] at hq;rcases cold_page h hp with h3|⟨h3,h4⟩
   ·rw [h3];exact cold_fromF h n y hq
   rw [h3];exact .inr ⟨_,rfl,h4⟩
theorem cold_from {C Q:Pl} (h:SubF C.f Q.f) {key:Bs} {above:Bool} {r} (hq:(newBt Q).from_ key above= .ok r) :
  (newBt C).from_ key above= .ok r∨ ∃j,(newBt C).from_ key above= .fail 113 (some j)∧Lacks C.f Q.f j:=by
 rw [Bt.from_] at hq;rw [Bt.from_];split at hq
 ·cases hq
 rename_i hl;rw [if_neg hl];rw [Bt.down] at hq;rw [Bt.down];cases hd:(newBt Q).downF key 17 0 [] [] with
 |fail c o=>rw [hd] at hq;cases hq
 |ok p=>
  obtain ⟨l,ks⟩:=p;rw [hd] at hq;simp only [] at hq;rcases cold_downF h _ _ _ _ hd with h1|⟨j,h1,h2⟩
  ·rw [h1];exact cold_fromF h _ _ hq
  rw [h1];exact .inr ⟨j,rfl,h2⟩
def LsnOk (P:Pl):Prop:= ∀id x,P.f id=some x→0≤x.lsn
theorem applyP_lsn {x:Pg} {r:Rc} (hx:0≤x.lsn) (hr:0≤r.lsn):0≤(applyP x r).lsn:=by
 unfold applyP;split
 ·exact hx
 exact hr
theorem LsnOk.apply {P P':Pl} {r:Rc} (h:LsnOk P) (hr:0≤r.lsn) (ht:P.apply r=some P'):LsnOk P':=by
 unfold Pl.apply at ht;split at ht
 ·rename_i x hx;injection ht with ht;subst ht
  intro id y hy;simp only [] at hy;split at hy
  ·injection hy with hy;subst hy;exact applyP_lsn (h _ _ hx) hr
  exact h _ _ hy
 split at ht
 ·injection ht with ht;subst ht
  intro id y hy;simp only [] at hy;split at hy
  ·injection hy with hy;subst hy;exact applyP_lsn (by simp [newPg]) hr
  exact h _ _ hy
 cases ht
theorem LsnOk.laid: ∀(l:List Rc) {P P':Pl} {n m:Int},LsnOk P→0≤n→laidP P l n=some (P',m)→LsnOk P'
 | [],P,P',n,m,h,hn,ht=>by
  rw [laidP] at ht;injection ht with ht;injection ht with h1 h2;subst h1;exact h
 |r::l,P,P',n,m,h,hn,ht=>by
  rw [laidP] at ht;split at ht
  ·cases ht
  cases ha:P.apply {r with lsn:=n} with
  |none=>rw [ha] at ht;cases ht
  |some P1=>
   rw [ha] at ht;exact LsnOk.laid l (h.apply hn ha) (by omega) ht
def Warm (P:Pl) (kv:Ens):Prop:=LsnOk P∧ ∃n,n≤1000000000∧PHolds P n kv
structure PgFine (p:Pg):Prop where
 id0:0≤p.id
 id1:p.id<256
 l0:0≤p.lsn
 l1:p.lsn≤1099511627776
 v0:0≤p.level
 v1:p.level≤16
 n0: -1≤p.next
 n1:p.next<256
 len:p.ents.length≤8
 ents: ∀e∈p.ents,e.1.length≤32∧e.2.length≤64
theorem Warm.fine {P:Pl} {kv:Ens} (h:Warm P kv) {id:Int} {x:Pg} (hx:P.f id=some x):PgFine x∧x.id=id:=by obtain ⟨h1,n,hn,h2,_⟩:=h;obtain ⟨a,b,c⟩:=h2 id x hx;exact ⟨⟨a.id.1,a.id.2,h1 _ _ hx,by omega,a.level.1,a.level.2,a.next.1,a.next.2,a.len,a.ents⟩,b⟩
def only (f:Int→Option Pg) (ids:List Int):Int→Option Pg:=fun id=>if id∈ids then f id else none
def Stands (P:Pl) (kv:Ens) (ids:List Int):Prop:=ids.length≤190∧(∀j∈ids,0≤j∧j<256∧(P.f j).isSome=true)∧
 ∀C:Pl,(∀id x,C.f id=some x→P.f id=some x)→ ∀key above,key.length≤32→
  (newBt C).from_ key above= .ok (fromKv key above kv)∨ ∃j,(newBt C).from_ key above= .fail 113 (some j)∧C.f j=none∧j∈ids
theorem Chs.has {C:CP} {V:Vw}: ∀(es:Ens) {lo hi fl nx ids kv},(∀id lo hi fl nx js kv,C id lo hi fl nx js kv→ ∀j∈js,(V j).isSome=true)→Chs C es lo hi fl nx ids kv→ ∀j∈ids,(V j).isSome=true
 | [],_,_,_,_,_,_,_,h=>h.elim
 | [e],_,_,_,_,_,_,hC,h=>hC _ _ _ _ _ _ _ h.2
 |e::e2::r,_,_,_,_,_,_,hC,h=>by
  obtain ⟨h0,h1,h2,md,i1,i2,k1,k2,rfl,rfl,h3,h4⟩:=h;intro j hj;rcases List.mem_append.1 hj with q|q
  ·exact hC _ _ _ _ _ _ _ h3 j q
  exact Chs.has (e2::r) hC h4 j q
theorem SubT.has {V:Vw}: ∀(n:Nat) {id lo hi fl nx ids kv},SubT V n id lo hi fl nx ids kv→ ∀j∈ids,(V j).isSome=true
 |0,id,lo,hi,fl,nx,ids,kv,⟨_,h2,x,h3,_⟩,j,hj=>by
  rw [h2] at hj;simp only [List.mem_singleton] at hj;rw [hj,h3];rfl
 |n+1,id,lo,hi,fl,nx,ids,kv,⟨js,h1,x,h2,h3,h4,h5,h6,h7⟩,j,hj=>by
  rw [h1] at hj;rcases List.mem_cons.1 hj with rfl|hj
  ·rw [h2];rfl
  exact Chs.has _ (fun _ _ _ _ _ _ _ hs=>SubT.has n hs) h7 j hj
theorem Warm.stands {P:Pl} {kv:Ens} (h:Warm P kv) (hl:kv.length≤500): ∃ids,Stands P kv ids:=by
 obtain ⟨_,nn,_,hOk,hH⟩:=h;have hso:=hH.sorted;have hA:=AllOk.new hOk;obtain ⟨n,u,fl,ids,h⟩:=hH;obtain ⟨h1,h2⟩:=tr_small h (by omega);obtain ⟨h3,_⟩:=tr_bound h;have hc:=h.c;have hrg:=h.g.rg;have hv: ∀j∈ids,(newBt P).view j=P.f j:=fun j hj=>newBt_view (hrg j hj).1 (by have:=(hrg j hj).2.1;omega);refine ⟨ids,by omega,fun j hj=>⟨(hrg j hj).1,by have:=(hrg j hj).2.1;omega,by rw [←hv j hj];exact SubT.has n h.s j hj⟩,fun C hC key above hk=> ?_⟩;have hQv: ∀j∈ids,(newBt ⟨only P.f ids,0, []⟩).view j=(newBt P).view j:=fun j hj=>by
  rw [hv j hj,newBt_view (hrg j hj).1 (by have:=(hrg j hj).2.1;omega)];simp only [only];rw [if_pos hj]
 have hsub: ∀j x,only P.f ids j=some x→P.f j=some x∧j∈ids:=fun j x hx=>by
  unfold only at hx;split at hx
  ·exact ⟨hx,by assumption⟩
  cases hx
 have hOkQ:PlOk ⟨only P.f ids,0, []⟩ nn:=fun j x hx=>hOk j x (hsub j x hx).1;have hs:=SubT.frame n hQv h.s;obtain ⟨l',ks',y,kvL,kvR,m,hd,rfl,w1,w2,w3,w4,w5⟩:=down_sides (key:=key) (IdsOk.new hOkQ) n 17 [] [] (by omega) hs (InR.all key);have hlast:lastPg ([]++l'++ [y])=y:=lastPg_end _ _;have hsR:Sorted kvR:=(List.pairwise_append.1 hso).2.1;have hq:(newBt ⟨only P.f ids,0, []⟩).from_ key above= .ok (fromKv key above (kvL++y.ents++kvR)):=by rw [Bt.from_,if_neg (by omega),Bt.down,hd];simp only [hlast];rw [List.append_assoc,fromKv_left _ w2];exact fromF_law (AllOk.new hOkQ) m 256 (by omega) w4 w1 w3 hsR
 have hS:SubF C.f (only P.f ids):=fun j x hx=>by
  cases hc:C.f j with
  |none=>exact .inr rfl
  |some z=>have:=hC j z hc;rw [(hsub j x hx).1] at this;exact .inl (this.symm▸rfl)
 rcases cold_from (C:=C) (Q:=⟨only P.f ids,0, []⟩) hS hq with h4|⟨j,h4,h5,h6,_⟩
 ·exact .inl h4
 refine .inr ⟨j,h4,h5, ?_⟩;cases ho:only P.f ids j with
 |none=>exact absurd ho h6
 |some x=>exact (hsub j x ho).2
theorem Inv.drop_at {w0 w:World} {D:Sto} {ss:List Seg} {s:Seg} (i:Nat) (h:Inv w0 D (s::ss) w):Inv w0 D (s::ss.eraseIdx (i - 1)) w:=by
 have:=(h.put_back 0).erase 0;have h2:=h.perm (ss':=ss++ [s]) (by simp [List.flatten_append];exact List.perm_append_comm);have h3:Inv w0 D (s::ss.eraseIdx (i - 1)) w:=by
  cases hi:ss[i - 1]? with
  |none=>rw [List.eraseIdx_of_length_le (List.getElem?_eq_none_iff.1 hi)];exact h
  |some q=>
   have hp:=(erase_perm (i - 1) ss hi).flatten;have h4:Inv w0 D (q::s::ss.eraseIdx (i - 1)) w:=h.perm (by
    simp only [List.flatten_cons] at hp ⊢;refine List.Perm.trans ?_ (List.Perm.append_left s hp);rw [←List.append_assoc,←List.append_assoc];exact List.Perm.append_right _ List.perm_append_comm)
   exact h4.drop
 exact h3
theorem UBytes_spec {w0 w:World} {D:Sto} {ss:List Seg} (hI:Inv w0 D ss w) {ad:Nat→Addr} (g105:GlobIs D 0 (errV ad 105)) (tx n:Int) {vk vv:Value} {key value:List Nat} (had:Bool) (hk:RB D vk key) (hv:RB D vv value) (hm:value.length≤140737488000000) :
  Calls Tryz.prog 20 #[.agg #[.int .i64 tx, .int .i64 n,vk, .bool had,vv]] w (Ret fun r w'=> ∃D',Le D D'∧((∃v s,(⟨tx,n,key,had,value⟩:Ent).Ok∧r= .tuple #[v, .nilIface]∧Inv w0 D' (s::ss) w'∧OB v (⟨tx,n,key,had,value⟩:Ent).enc s)∨(¬(⟨tx,n,key,had,value⟩:Ent).Ok∧r= .tuple #[.slice none 0 0,errV ad 105]∧Inv w0 D' ss w'))):=by
 obtain ⟨Ak,ck,rfl,_⟩:=hk.slice;obtain ⟨Av,cv,rfl,_⟩:=hv.slice;have hhad:had=true↔had=true:=Iff.rfl;refine enter (N:=55) Tryz.func20 rfl rfl rfl ?_;intro a hE;refine wsr ?_;refine l_step rfl (f_box (cs:= #[_,_,_,_,_]) hE hI rfl rfl rfl rfl rfl ?_);clear hI hE a w;intro a b1 w hE hI;refine go 9 hE hI ?_;clear hE a;intro a hE;refine l_step rfl (o_call hE rfl rfl rfl rfl ent_19 (Key_spec hI g105 tx n) ?_);clear hI hE a;rintro r w h a hE;rcases h with ⟨v4,D2,h1,rfl,hD3,hI,hv5⟩|⟨h1,rfl,hI⟩
 ·obtain ⟨A6,c7,rfl,_⟩:=hv5.slice;refine go 17 hE hI ?_;clear hE a;intro a hE;refine l_step rfl (o_call hE rfl rfl rfl rfl ent_23 (UserKey_spec hI (g105.mono hD3) (hk.mono hD3)) ?_);clear hI hE a;rintro r w h a hE;rcases h with ⟨v10,D8,h2,h2_,rfl,hD9,hI,hv11⟩|⟨h2,rfl,hI⟩
  ·obtain ⟨A12,c13,rfl,_⟩:=hv11.slice;refine go 17 hE hI ?_;clear hE a;intro a hE;refine zs hE (p_len rfl rfl Tryz.underlying33) ?_;clear hE a;intro a hE;refine l_step rfl (o_cmp hE rfl rfl rfl rfl rfl rfl ?_ ?_)
   ·intro h3;replace h3:=gtr_t h3;clear hE a;intro a hE;refine go 13 hE hI ?_;clear hE a;intro a hE;refine wp_seq ?_;refine d_start [] [] (by kernel_rfl) hI rfl rfl ?_;clear hI w;intro w hI;obtain ⟨T_14,fr_14,hg_14⟩:=g105;refine dl 0 hE rfl (fun w hS=>f_load rfl scal_38 (Inv.data hS _ _ ((hD3.trans hD9) _ _ (hg_14))) rfl) (hI) (listed':= #[true,false,false]) ?_;clear hE a;intro a hE;refine dp 1 hE rfl (p_assign rfl) (fun _=>hI) ?_;clear hE a;intro a hE;refine dp 2 hE rfl (p_assign rfl) (fun _=>hI) ?_;clear hE a;intro a hE;refine d_done (by kernel_rfl) ?_;refine gc 3 hE ?_;refine ret2 rfl hE rfl rfl ?_;refine ⟨_,(hD3.trans hD9), .inr ⟨?_,rfl,hI.drop⟩⟩;rintro ⟨q1,q2,q3,q4⟩;dsimp only at q1 q2 q3 q4
    first|omega|(rcases q4 with q4|q4;cases q4;omega)
   intro h3;replace h3:=gtr_f h3;clear hE a;intro a hE;refine go 3 hE hI ?_;clear hE a;intro a hE;rcases Bool.eq_false_or_eq_true had with rfl|rfl
   ·replace hhad:=iff_t hhad;refine gs hE (p_not rfl) ?_;clear hE a;intro a hE;refine go 23 hE hI ?_;clear hE a;intro a hE;refine wp_seq ?_;have hz1:(putZ (key.length:Nat)).length=1:=by rw [putZ_small (by omega) (by omega)];rfl
    have hz2:(putZ 1).length=1:=by rw [putZ_small (by omega) (by omega)];rfl
    refine d_start [] [] (by kernel_rfl) hI rfl rfl ?_;clear hI w;intro w hI;refine dp 0 hE rfl (p_fieldAddr (m:=2) rfl fo_35_2 rfl) (fun _=>hI) (listed':= #[true,false,false,false,false,false,false,false,false,false]) ?_;clear hE a;intro a hE;refine dl 1 hE rfl (fun w hS=>f_load rfl scal_33 (Inv.seg 0 hS rfl) rfl) (hI) ?_;clear hE a;intro a hE;refine dp 3 hE rfl (p_move rfl) (fun _=>hI) ?_;clear hE a;intro a hE;refine dp 5 hE rfl (p_fieldAddr (m:=4) rfl fo_35_4 rfl) (fun _=>hI) ?_;clear hE a;intro a hE;refine dl 6 hE rfl (fun w hS=>f_load rfl scal_33 (Inv.seg 0 hS rfl) rfl) (hI) ?_;clear hE a;intro a hE;refine do1 2 hE rfl ?_;refine o_call hE rfl rfl rfl rfl ent_67 (PutBytes_data hI (RB.nil _) (hk.mono (hD3.trans hD9)) (by simp;omega)) ?_;clear hI hE a;rintro r w ⟨D15,hD16,hI,hb17⟩ a hE;obtain ⟨A18,c19,rfl,_⟩:=hb17.slice;refine ⟨fun _=>(Inv.weaken hI hD16), ?_⟩;refine do1 4 hE rfl ?_;refine o_call hE rfl rfl rfl rfl ent_68 (Put_data (m:=1) hI hb17 (by simp only [List.length_append,List.length_nil,hz1];omega) (by omega) (by omega)) ?_;clear hI hE a;rintro r w ⟨D20,hD21,hI,hb22⟩ a hE;obtain ⟨A23,c24,rfl,_⟩:=hb22.slice;refine ⟨fun _=>(Inv.weaken hI (hD16.trans hD21)), ?_⟩;refine do1 7 hE rfl ?_;refine o_call hE rfl rfl rfl rfl ent_67 (PutBytes_spec hI hb22 (hv.mono (((hD3.trans hD9).trans hD16).trans hD21)) (by simp only [List.length_append,List.length_nil,hz1];omega)) ?_;clear hI hE a;rintro r w ⟨s28,hR25,hI⟩ a hE;obtain ⟨A26,c27,rfl,_⟩:=Row.slice hR25;refine ⟨fun _=>(Inv.weaken (hI.dropS [0]) (hD16.trans hD21)), ?_⟩;refine dp 8 hE rfl (p_assign rfl) (fun _=>(Inv.weaken (hI.dropS [0]) (hD16.trans hD21))) ?_;clear hE a;intro a hE;refine dp 9 hE rfl (p_assign rfl) (fun _=>(Inv.weaken (hI.dropS [0]) (hD16.trans hD21))) ?_;clear hE a;intro a hE;refine d_done (by kernel_rfl) ?_;refine gc 2 hE ?_;refine ret2 rfl hE rfl rfl ?_;refine ⟨_,(((hD3.trans hD9).trans hD16).trans hD21), .inl ⟨_,_,⟨by dsimp only;omega,by dsimp only;omega,by dsimp only;omega, .inl rfl⟩,rfl,hI.drop_at 1,Row.cast hR25 (by simp [Ent.enc,hadZ]) (by simp [Ent.enc,hadZ];try omega)⟩⟩
   replace hhad:=iff_f hhad;refine gs hE (p_not rfl) ?_;clear hE a;intro a hE;refine go 3 hE hI ?_;clear hE a;intro a hE;refine gs hE (p_len rfl rfl Tryz.underlying33) ?_;clear hE a;intro a hE;refine l_go hE rfl (o_cmp hE rfl rfl rfl rfl rfl rfl ?_ ?_)
   ·intro h4;replace h4:=gtr_t h4;clear hE a;intro a hE;refine go 4 hE hI ?_;clear hE a;intro a hE;refine wp_seq ?_;refine d_start [] [] (by kernel_rfl) hI rfl rfl ?_;clear hI w;intro w hI;obtain ⟨T_29,fr_29,hg_29⟩:=g105;refine dl 0 hE rfl (fun w hS=>f_load rfl scal_38 (Inv.data hS _ _ ((hD3.trans hD9) _ _ (hg_29))) rfl) (hI) (listed':= #[true,false,false]) ?_;clear hE a;intro a hE;refine dp 1 hE rfl (p_assign rfl) (fun _=>hI) ?_;clear hE a;intro a hE;refine dp 2 hE rfl (p_assign rfl) (fun _=>hI) ?_;clear hE a;intro a hE;refine d_done (by kernel_rfl) ?_;refine gc 3 hE ?_;refine ret2 rfl hE rfl rfl ?_;refine ⟨_,(hD3.trans hD9), .inr ⟨?_,rfl,hI.drop⟩⟩;rintro ⟨q1,q2,q3,q4⟩;dsimp only at q1 q2 q3 q4
    first|omega|(rcases q4 with q4|q4;cases q4;omega)
   intro h4;replace h4:=gtr_f h4;clear hE a;intro a hE;refine go 17 hE hI ?_;clear hE a;intro a hE;refine wp_seq ?_;have hz1:(putZ (key.length:Nat)).length=1:=by rw [putZ_small (by omega) (by omega)];rfl
   have hz2:(putZ 0).length=1:=by rw [putZ_small (by omega) (by omega)];rfl
   refine d_start [] [] (by kernel_rfl) hI rfl rfl ?_;clear hI w;intro w hI;refine dp 0 hE rfl (p_fieldAddr (m:=2) rfl fo_35_2 rfl) (fun _=>hI) (listed':= #[true,false,false,false,false,false,false,false,false,false]) ?_;clear hE a;intro a hE;refine dl 1 hE rfl (fun w hS=>f_load rfl scal_33 (Inv.seg 0 hS rfl) rfl) (hI) ?_;clear hE a;intro a hE;refine dp 3 hE rfl (p_move rfl) (fun _=>hI) ?_;clear hE a;intro a hE;refine dp 5 hE rfl (p_fieldAddr (m:=4) rfl fo_35_4 rfl) (fun _=>hI) ?_;clear hE a;intro a hE;refine dl 6 hE rfl (fun w hS=>f_load rfl scal_33 (Inv.seg 0 hS rfl) rfl) (hI) ?_;clear hE a;intro a hE;refine do1 2 hE rfl ?_;refine o_call hE rfl rfl rfl rfl ent_67 (PutBytes_data hI (RB.nil _) (hk.mono (hD3.trans hD9)) (by simp;omega)) ?_;clear hI hE a;rintro r w ⟨D30,hD31,hI,hb32⟩ a hE;obtain ⟨A33,c34,rfl,_⟩:=hb32.slice;refine ⟨fun _=>(Inv.weaken hI hD31), ?_⟩;refine do1 4 hE rfl ?_;refine o_call hE rfl rfl rfl rfl ent_68 (Put_data (m:=0) hI hb32 (by simp only [List.length_append,List.length_nil,hz1];omega) (by omega) (by omega)) ?_;clear hI hE a;rintro r w ⟨D35,hD36,hI,hb37⟩ a hE;obtain ⟨A38,c39,rfl,_⟩:=hb37.slice;refine ⟨fun _=>(Inv.weaken hI (hD31.trans hD36)), ?_⟩;refine do1 7 hE rfl ?_;refine o_call hE rfl rfl rfl rfl ent_67 (PutBytes_spec hI hb37 (hv.mono (((hD3.trans hD9).trans hD31).trans hD36)) (by simp only [List.length_append,List.length_nil,hz1];omega)) ?_;clear hI hE a;rintro r w ⟨s43,hR40,hI⟩ a hE;obtain ⟨A41,c42,rfl,_⟩:=Row.slice hR40;refine ⟨fun _=>(Inv.weaken (hI.dropS [0]) (hD31.trans hD36)), ?_⟩;refine dp 8 hE rfl (p_assign rfl) (fun _=>(Inv.weaken (hI.dropS [0]) (hD31.trans hD36))) ?_;clear hE a;intro a hE;refine dp 9 hE rfl (p_assign rfl) (fun _=>(Inv.weaken (hI.dropS [0]) (hD31.trans hD36))) ?_;clear hE a;intro a hE;refine d_done (by kernel_rfl) ?_;refine gc 2 hE ?_;refine ret2 rfl hE rfl rfl ?_;refine ⟨_,(((hD3.trans hD9).trans hD31).trans hD36), .inl ⟨_,_,⟨by dsimp only;omega,by dsimp only;omega,by dsimp only;omega, .inr (by dsimp only;omega)⟩,rfl,hI.drop_at 1,Row.cast hR40 (by simp [Ent.enc,hadZ]) (by simp [Ent.enc,hadZ];try omega)⟩⟩
  refine go 18 hE hI ?_;clear hE a;intro a hE;refine ret2 rfl hE rfl rfl ?_;refine ⟨_,hD3, .inr ⟨?_,rfl,hI.drop⟩⟩;rintro ⟨q1,q2,q3,q4⟩;dsimp only at q1 q2 q3 q4
  first|omega|(rcases q4 with q4|q4;cases q4;omega)
 refine go 18 hE hI ?_;clear hE a;intro a hE;refine ret2 rfl hE rfl rfl ?_;refine ⟨_,(Le.refl _), .inr ⟨?_,rfl,hI.drop⟩⟩;rintro ⟨q1,q2,q3,q4⟩;dsimp only at q1 q2 q3 q4
 first|omega|(rcases q4 with q4|q4;cases q4;omega)
open Go
instance:Inhabited Ent:=⟨⟨0,0, [],false, []⟩⟩
def ueOf (e:Ent):Bs×Bs:=(keyL e.tx e.n,e.enc)
def befE (a b:Ent):Prop:=a.tx<b.tx∨(a.tx=b.tx∧a.n<b.n)
instance (a b:Ent):Decidable (befE a b):=inferInstanceAs (Decidable (_∨_))
def withE:List Ent→Ent→List Ent
 | [],e=> [e]
 |a::r,e=>if befE a e then a::withE r e else if a.tx=e.tx∧a.n=e.n then e::r else e::a::r
theorem with_mem {e:Ent}: ∀(l:List Ent) {a:Ent},a∈withE l e→a=e∨a∈l
 | [],a,h=>by simpa [withE] using h
 |x::r,a,h=>by
  rw [withE] at h;split at h
  ·rcases List.mem_cons.1 h with h|h
   ·exact .inr (by simp [h])
   rcases with_mem r h with h|h
   ·exact .inl h
   exact .inr (by simp [h])
  split at h
  ·rcases List.mem_cons.1 h with h|h
   ·exact .inl h
   exact .inr (by simp [h])
  rcases List.mem_cons.1 h with h|h
  ·exact .inl h
  exact .inr h
theorem with_ins {e:Ent} (he:e.Ok): ∀l:List Ent,(∀a∈l,a.Ok)→(withE l e).map ueOf=insKv (l.map ueOf) (keyL e.tx e.n) e.enc
 | [],_=>rfl
 |a::r,h=>by
  have ha:=h a (by simp);have ih:=with_ins he r (fun b hb=>h b (by simp [hb]));have h1:=ltB_key ha.1 he.1;have h2:=key_eq ha.1 he.1;rw [withE];show List.map ueOf (if befE a e then a::withE r e else if a.tx=e.tx∧a.n=e.n then e::r else e::a::r)=(if ltB (keyL a.tx a.n) (keyL e.tx e.n)=true then ueOf a::insKv (r.map ueOf) (keyL e.tx e.n) e.enc else if keyL a.tx a.n=keyL e.tx e.n then (keyL a.tx a.n,e.enc)::r.map ueOf else (keyL e.tx e.n,e.enc)::ueOf a::r.map ueOf);by_cases hb:befE a e
  ·have h3:ltB (keyL a.tx a.n) (keyL e.tx e.n)=true:=by rw [h1];exact hb
   rw [if_pos hb,if_pos h3,List.map_cons,ih]
  have h3: ¬ltB (keyL a.tx a.n) (keyL e.tx e.n)=true:=by rw [h1];exact hb
  rw [if_neg hb,if_neg h3];by_cases hs:a.tx=e.tx∧a.n=e.n
  ·have h4:keyL a.tx a.n=keyL e.tx e.n:=by rw [h2];exact hs
   rw [if_pos hs,if_pos h4,h4,List.map_cons];rfl
  have h4: ¬keyL a.tx a.n=keyL e.tx e.n:=by rw [h2];exact hs
  rw [if_neg hs,if_neg h4];rfl
def UIn (kv:Ens) (hv:List Ent):Prop:=(∀a∈hv,a.Ok)∧ ∃A:Ens,kv=A++hv.map ueOf∧ ∀a∈A,∃k,a.1=107::k
theorem UIn.nil:UIn [] []:=⟨by simp, [],rfl,by simp⟩
theorem UIn.first {kv:Ens} {hv:List Ent} (h:UIn kv hv):fromKv [117] false kv=(hv[0]?).map ueOf:=by
 obtain ⟨h1,A,rfl,h2⟩:=h;rw [fromKv_left A (fun a ha=>by obtain ⟨k,hk⟩:=h2 a ha;rw [hk];simp [ltB])];cases hv with
 |nil=>rfl
 |cons a r=>
  rw [List.map_cons,fromKv,if_neg]
  ·rfl
  rintro (q|⟨q,_⟩)
  ·simp only [ueOf,keyL,List.cons_append,ltB,if_true] at q;cases q
  cases q
theorem be8_inj {t s:Int} (h1:1≤t∧t≤2251799813685248) (h2:1≤s∧s≤2251799813685248) (h:be8 t=be8 s):t=s:=by
 have:=key_eq (t:=t) (s:=s) (n:=0) (m:=0) ⟨h1.1,h1.2,by omega,by omega⟩ ⟨h2.1,h2.2,by omega,by omega⟩;have h3:keyL t 0=keyL s 0:=by simp only [keyL,h]
 rw [this] at h3;exact h3.1
theorem beg_key {t s n:Int} (h1:1≤t∧t≤2251799813685248) (h2:1≤s∧s≤2251799813685248):begB (117::be8 t) (keyL s n)=decide (s=t):=by
 have e1:(keyL s n).length=10:=keyL_len _ _;have e2:(117::be8 t).length=9:=by simp [be8_len]
 have e3:(keyL s n).take 9=117::be8 s:=by simp only [keyL,List.cons_append,List.take_succ_cons];rw [List.take_left' (be8_len _)]
 simp only [begB,e1,e2,e3];by_cases h:s=t
 ·subst h;simp
 have h3: ¬be8 s=be8 t:=fun q=>h (be8_inj h2 h1 q);simp [h,h3]
theorem UIn.want {kv:Ens} {hv:List Ent} {t:Int} (h:UIn kv hv) (ht:1≤t∧t≤2251799813685248):wantE (117::be8 t) kv=(hv.filter fun a=>decide (a.tx=t)).map ueOf:=by
 obtain ⟨h1,A,rfl,h2⟩:=h;unfold wantE;rw [List.filter_append];have e1:A.filter (fun e=>begB (117::be8 t) e.1)= []:=by rw [List.filter_eq_nil_iff];intro x hx;obtain ⟨k,hk⟩:=h2 x hx;rw [hk];simp [begB]
 rw [e1,List.nil_append,List.filter_map];congr 1;apply List.filter_congr;intro a ha;have:=h1 a ha;exact beg_key ht ⟨this.1.1,this.1.2.1⟩
structure Finds (b:Bt) (c:Nat) (kv:Ens) (hv:List Ent):Prop where
 run:Runs (newBt E0) b (601*c)
 h:Holds b kv
 len:kv.length≤c
 fine: ∀e∈kv,e.1.length≤32∧e.2.length≤64
 u:UIn kv hv
 hl:hv.length≤c
theorem Finds.start:Finds (newBt E0) 0 [] []:=⟨Runs.refl _ _,E0_holds.2,by simp,by simp,UIn.nil,by simp⟩
theorem Finds.recs {b:Bt} {c:Nat} {kv:Ens} {hv:List Ent} (h:Finds b c kv hv):b.recs.length≤601*c∧b.pool=E0.f:=by have h1:=Runs.len h.run;have e0:(newBt E0).recs.length=0:=rfl;exact ⟨by omega,h1.2⟩
theorem Finds.laid {b:Bt} {c:Nat} {kv:Ens} {hv:List Ent} (h:Finds b c kv hv) (hc:c≤600): ∃P9 m9,laidP E0 b.recs 4=some (P9,m9)∧PoolOk P9 kv:=by obtain ⟨_,P9,h1,h2⟩:=laid_holds E0_ok (by omega) h.run (by omega) h.h (by have:=h.len;omega);exact ⟨P9,_,h1,PoolOk.of (AllOk.new h2.1) h2.2 (by have:=h.len;omega) (fun e he=>(h.fine e he).1) (fun e he=>(h.fine e he).2)⟩
def IzR (D:Sto) (vs:List Value) (x:Int):Prop:=vs= [.int .i64 x]
theorem IzR.keeps:Keeps IzR:=fun _ _ _ _ _ h=>h
theorem Equal_spec {w0 w:World} {D:Sto} {ss:List Seg} (hI:Inv w0 D ss w) {va vb:Value} {ka kb:List Nat} (ha:RB D va ka) (hb:RB D vb kb) :
  Calls Tryz.prog 160 #[va,vb] w (Ret fun r w'=>r= .bool (decide (ka=kb))∧Inv w0 D ss w'):=by
 obtain ⟨A1,c2,rfl,_⟩:=ha.slice;obtain ⟨A3,c4,rfl,_⟩:=hb.slice;refine enter (N:=10) Tryz.func160 rfl rfl rfl ?_;intro a hE;refine go 5 hE hI ?_;clear hE a;intro a hE;refine zl hE (r_toString hI rfl ha Tryz.underlying33 Tryz.underlying5 Tryz.underlying9) ?_;clear hE a;intro a hE;refine zm hE ?_;clear hE a;intro a hE;refine zl hE (r_toString hI rfl hb Tryz.underlying33 Tryz.underlying5 Tryz.underlying9) ?_;clear hE a;intro a hE;refine zs hE (p_strEql rfl rfl (strOf_eq ha.lt hb.lt)) ?_;clear hE a;intro a hE;refine go 3 hE hI ?_;clear hE a;intro a hE;refine ret1 rfl hE rfl ?_;exact ⟨rfl,hI⟩
theorem RdSeg.mono {D D':Sto} {ad:Nat→Addr} {b:Nat} {r:Rd} {s:Seg} (h:RdSeg D ad b r s) (hD:Le D D'):RdSeg D' ad b r s:=by obtain ⟨vb,ve,rfl,hb,he,hok⟩:=h;exact ⟨vb,ve,rfl,hb.mono hD,he.mono hD,hok⟩
def UeR (D:Sto) (vs:List Value) (x:Ent):Prop:= ∃k v,vs= [.int .i64 x.tx, .int .i64 x.n,k, .bool x.had,v]∧RB D k x.key∧RB D v x.value
theorem UeR.keeps:Keeps UeR:=fun D D' vs x hD h=>by obtain ⟨k,v,rfl,h1,h2⟩:=h;exact ⟨k,v,rfl,h1.mono hD,h2.mono hD⟩
theorem UeR.one {D:Sto} {vs:List Value} {x:Ent} (h:UeR D vs x): ∀u∈vs,u.oneCell'=true:=by obtain ⟨k,v,rfl,h1,h2⟩:=h;obtain ⟨_,_,rfl,_⟩:=h1.slice;obtain ⟨_,_,rfl,_⟩:=h2.slice;intro u hu;simp only [List.mem_cons,List.not_mem_nil,or_false] at hu;rcases hu with rfl|rfl|rfl|rfl|rfl<;>rfl
end Go.Proofs.YtkknmpkcfpdllaaGreatDoor.B
