/- What functions of the program compute, each function once: steps over the model, and the plain law of it. -/
import Derived.Test.YtkknmpkcfpdllaaGreatDoorTScanRel
import Derived.Test.YtkknmpkcfpdllaaGreatDoorTMade
import Derived.Test.YtkknmpkcfpdllaaGreatDoorTValuesP
import Derived.Test.YtkknmpkcfpdllaaGreatDoorTApart4
import Derived.Test.YtkknmpkcfpdllaaGreatDoorTFacts
namespace Go.Proofs.YtkknmpkcfpdllaaGreatDoor.B
open Go Go.Proofs
set_option linter.unusedVariables false
set_option linter.unusedSimpArgs false
def SubF (C Q:Int→Option Pg):Prop:= ∀id x,Q id=some x→C id=some x∨C id=none
def Lacks (C Q:Int→Option Pg) (id:Int):Prop:=C id=none∧Q id≠none∧0≤id∧id<256
theorem cold_page {C Q:Pl} (h:SubF C.f Q.f) {id:Int} {x:Pg} (hp:(newBt Q).page id= .ok x):(newBt C).page id= .ok x∨((newBt C).page id= .fail 113 (some id)∧Lacks C.f Q.f id):=by
 simp only [Bt.page,newBt] at hp ⊢;split at hp
 ·cases hp
 rename_i hr;rw [if_neg hr];cases hq:Q.f id with
 |none=>rw [hq] at hp;cases hp
 |some y=>
  rw [hq] at hp;simp only [] at hp;rcases h id y hq with h1|h1
  ·rw [h1];exact .inl hp
  rw [h1];exact .inr ⟨rfl,h1,by simp [hq],by omega,by omega⟩
theorem cold_downF {C Q:Pl} (h:SubF C.f Q.f) {key:Bs}: ∀(n:Nat) (id:Int) (l:List Pg) (ks:List Nat) {r},(newBt Q).downF key n id l ks= .ok r→
  (newBt C).downF key n id l ks= .ok r∨ ∃j,(newBt C).downF key n id l ks= .fail 113 (some j)∧Lacks C.f Q.f j
 |0,id,l,ks,r,hq=>by rw [Bt.downF] at hq;cases hq
 |n+1,id,l,ks,r,hq=>by
  rw [Bt.downF] at hq;rw [Bt.downF];cases hp:(newBt Q).page id with
  |fail c o=>rw [hp] at hq;cases hq
  |ok x=>
   rw [hp] at hq;simp only [] at hq;rcases cold_page h hp with h1|⟨h1,h2⟩
   ·rw [h1];simp only [];split at hq
    ·rename_i hl;rw [if_pos hl];exact .inl hq
    rename_i hl;rw [if_neg hl];cases ha:atP x (childP x key) with
    |fail c o=>rw [ha] at hq;cases hq
    |ok id'=>rw [ha] at hq;simp only [] at hq ⊢;exact cold_downF h n id' _ _ hq
   rw [h1];exact .inr ⟨id,rfl,h2⟩
theorem cold_fromF {C Q:Pl} (h:SubF C.f Q.f) {key:Bs} {above:Bool}: ∀(n:Nat) (x:Pg) {r},(newBt Q).fromF key above n x= .ok r→
  (newBt C).fromF key above n x= .ok r∨ ∃j,(newBt C).fromF key above n x= .fail 113 (some j)∧Lacks C.f Q.f j
 |0,x,r,hq=> .inl hq
 |n+1,x,r,hq=>by
  rw [Bt.fromF] at hq;rw [Bt.fromF];by_cases h1:(if ((findP x.ents key).2 && above)=true then (findP x.ents key).1+1 else (findP x.ents key).1)<x.ents.length
  ·rw [if_pos h1] at hq ⊢;exact .inl hq
  rw [if_neg h1] at hq ⊢;by_cases h2:x.next= -1
  ·rw [if_pos h2] at hq ⊢;exact .inl hq
  rw [if_neg h2] at hq ⊢;cases hp:(newBt Q).page x.next with
  |fail c o=>rw [hp] at hq;cases hq
  |ok y=>
   rw [hp] at hq;simp only [] at hq;rcases cold_page h hp with h3|⟨h3,h4⟩
   ·rw [h3];exact cold_fromF h n y hq
   rw [h3];exact .inr ⟨_,rfl,h4⟩
theorem cold_from {C Q:Pl} (h:SubF C.f Q.f) {key:Bs} {above:Bool} {r} (hq:(newBt Q).from_ key above= .ok r) :
  (newBt C).from_ key above= .ok r∨ ∃j,(newBt C).from_ key above= .fail 113 (some j)∧Lacks C.f Q.f j:=by
 rw [Bt.from_] at hq;rw [Bt.from_];split at hq
 ·cases hq
 rename_i hl;rw [if_neg hl];rw [Bt.down] at hq;rw [Bt.down];cases hd:(newBt Q).downF key 17 0 [] [] with
 |fail c o=>rw [hd] at hq;cases hq
 |ok p=>
  obtain ⟨l,ks⟩:=p;rw [hd] at hq;simp only [] at hq;rcases cold_downF h _ _ _ _ hd with h1|⟨j,h1,h2⟩
  ·rw [h1];exact cold_fromF h _ _ hq
  rw [h1];exact .inr ⟨j,rfl,h2⟩
def LsnOk (P:Pl):Prop:= ∀id x,P.f id=some x→0≤x.lsn
theorem applyP_lsn {x:Pg} {r:Rc} (hx:0≤x.lsn) (hr:0≤r.lsn):0≤(applyP x r).lsn:=by
 unfold applyP;split
 ·exact hx
 exact hr
theorem LsnOk.apply {P P':Pl} {r:Rc} (h:LsnOk P) (hr:0≤r.lsn) (ht:P.apply r=some P'):LsnOk P':=by
 unfold Pl.apply at ht;split at ht
 ·rename_i x hx;injection ht with ht;subst ht
  intro id y hy;simp only [] at hy;split at hy
  ·injection hy with hy;subst hy;exact applyP_lsn (h _ _ hx) hr
  exact h _ _ hy
 split at ht
 ·injection ht with ht;subst ht
  intro id y hy;simp only [] at hy;split at hy
  ·injection hy with hy;subst hy;exact applyP_lsn (by simp [newPg]) hr
  exact h _ _ hy
 cases ht
theorem LsnOk.laid: ∀(l:List Rc) {P P':Pl} {n m:Int},LsnOk P→0≤n→laidP P l n=some (P',m)→LsnOk P'
 | [],P,P',n,m,h,hn,ht=>by
  rw [laidP] at ht;injection ht with ht;injection ht with h1 h2;subst h1;exact h
 |r::l,P,P',n,m,h,hn,ht=>by
  rw [laidP] at ht;split at ht
  ·cases ht
  cases ha:P.apply {r with lsn:=n} with
  |none=>rw [ha] at ht;cases ht
  |some P1=>
   rw [ha] at ht;exact LsnOk.laid l (h.apply hn ha) (by omega) ht
def Warm (P:Pl) (kv:Ens):Prop:=LsnOk P∧ ∃n,n≤1000000000∧PHolds P n kv
structure PgFine (p:Pg):Prop where
 id0:0≤p.id
 id1:p.id<256
 l0:0≤p.lsn
 l1:p.lsn≤1099511627776
 v0:0≤p.level
 v1:p.level≤16
 n0: -1≤p.next
 n1:p.next<256
 len:p.ents.length≤8
 ents: ∀e∈p.ents,e.1.length≤32∧e.2.length≤64
theorem Warm.fine {P:Pl} {kv:Ens} (h:Warm P kv) {id:Int} {x:Pg} (hx:P.f id=some x):PgFine x∧x.id=id:=by obtain ⟨h1,n,hn,h2,_⟩:=h;obtain ⟨a,b,c⟩:=h2 id x hx;exact ⟨⟨a.id.1,a.id.2,h1 _ _ hx,by omega,a.level.1,a.level.2,a.next.1,a.next.2,a.len,a.ents⟩,b⟩
def only (f:Int→Option Pg) (ids:List Int):Int→Option Pg:=fun id=>if id∈ids then f id else none
def Stands (P:Pl) (kv:Ens) (ids:List Int):Prop:=ids.length≤190∧(∀j∈ids,0≤j∧j<256∧(P.f j).isSome=true)∧
 ∀C:Pl,(∀id x,C.f id=some x→P.f id=some x)→ ∀key above,key.length≤32→
  (newBt C).from_ key above= .ok (fromKv key above kv)∨ ∃j,(newBt C).from_ key above= .fail 113 (some j)∧C.f j=none∧j∈ids
theorem Chs.has {C:CP} {V:Vw}: ∀(es:Ens) {lo hi fl nx ids kv},(∀id lo hi fl nx js kv,C id lo hi fl nx js kv→ ∀j∈js,(V j).isSome=true)→Chs C es lo hi fl nx ids kv→ ∀j∈ids,(V j).isSome=true
 | [],_,_,_,_,_,_,_,h=>h.elim
 | [e],_,_,_,_,_,_,hC,h=>hC _ _ _ _ _ _ _ h.2
 |e::e2::r,_,_,_,_,_,_,hC,h=>by
  obtain ⟨h0,h1,h2,md,i1,i2,k1,k2,rfl,rfl,h3,h4⟩:=h;intro j hj;rcases List.mem_append.1 hj with q|q
  ·exact hC _ _ _ _ _ _ _ h3 j q
  exact Chs.has (e2::r) hC h4 j q
theorem SubT.has {V:Vw}: ∀(n:Nat) {id lo hi fl nx ids kv},SubT V n id lo hi fl nx ids kv→ ∀j∈ids,(V j).isSome=true
 |0,id,lo,hi,fl,nx,ids,kv,⟨_,h2,x,h3,_⟩,j,hj=>by
  rw [h2] at hj;simp only [List.mem_singleton] at hj;rw [hj,h3];rfl
 |n+1,id,lo,hi,fl,nx,ids,kv,⟨js,h1,x,h2,h3,h4,h5,h6,h7⟩,j,hj=>by
  rw [h1] at hj;rcases List.mem_cons.1 hj with rfl|hj
  ·rw [h2];rfl
  exact Chs.has _ (fun _ _ _ _ _ _ _ hs=>SubT.has n hs) h7 j hj
theorem Warm.stands {P:Pl} {kv:Ens} (h:Warm P kv) (hl:kv.length≤500): ∃ids,Stands P kv ids:=by
 obtain ⟨_,nn,_,hOk,hH⟩:=h;have hso:=hH.sorted;have hA:=AllOk.new hOk;obtain ⟨n,u,fl,ids,h⟩:=hH;obtain ⟨h1,h2⟩:=tr_small h (by omega);obtain ⟨h3,_⟩:=tr_bound h;have hc:=h.c;have hrg:=h.g.rg;have hv: ∀j∈ids,(newBt P).view j=P.f j:=fun j hj=>newBt_view (hrg j hj).1 (by have:=(hrg j hj).2.1;omega);refine ⟨ids,by omega,fun j hj=>⟨(hrg j hj).1,by have:=(hrg j hj).2.1;omega,by rw [←hv j hj];exact SubT.has n h.s j hj⟩,fun C hC key above hk=> ?_⟩;have hQv: ∀j∈ids,(newBt ⟨only P.f ids,0, []⟩).view j=(newBt P).view j:=fun j hj=>by
  rw [hv j hj,newBt_view (hrg j hj).1 (by have:=(hrg j hj).2.1;omega)];simp only [only];rw [if_pos hj]
 have hsub: ∀j x,only P.f ids j=some x→P.f j=some x∧j∈ids:=fun j x hx=>by
  unfold only at hx;split at hx
  ·exact ⟨hx,by assumption⟩
  cases hx
 have hOkQ:PlOk ⟨only P.f ids,0, []⟩ nn:=fun j x hx=>hOk j x (hsub j x hx).1;have hs:=SubT.frame n hQv h.s;obtain ⟨l',ks',y,kvL,kvR,m,hd,rfl,w1,w2,w3,w4,w5⟩:=down_sides (key:=key) (IdsOk.new hOkQ) n 17 [] [] (by omega) hs (InR.all key);have hlast:lastPg ([]++l'++ [y])=y:=lastPg_end _ _;have hsR:Sorted kvR:=(List.pairwise_append.1 hso).2.1;have hq:(newBt ⟨only P.f ids,0, []⟩).from_ key above= .ok (fromKv key above (kvL++y.ents++kvR)):=by rw [Bt.from_,if_neg (by omega),Bt.down,hd];simp only [hlast];rw [List.append_assoc,fromKv_left _ w2];exact fromF_law (AllOk.new hOkQ) m 256 (by omega) w4 w1 w3 hsR
 have hS:SubF C.f (only P.f ids):=fun j x hx=>by
  cases hc:C.f j with
  |none=>exact .inr rfl
  |some z=>have:=hC j z hc;rw [(hsub j x hx).1] at this;exact .inl (this.symm▸rfl)
 rcases cold_from (C:=C) (Q:=⟨only P.f ids,0, []⟩) hS hq with h4|⟨j,h4,h5,h6,_⟩
 ·exact .inl h4
 refine .inr ⟨j,h4,h5, ?_⟩;cases ho:only P.f ids j with
 |none=>exact absurd ho h6
 |some x=>exact (hsub j x ho).2
set_option maxRecDepth 20000
set_option maxHeartbeats 8000000
theorem lit_one {w0 w:World} {D:Sto} {ss:List Seg} {b T n:Nat} {fr:Nat×Nat} (i:Nat) (hI:Inv w0 D ss w) (hn:n<256) (hi:ss[i]? =some [(b, .cells [Value.int .u8 ((n:Nat):Int)].toArray T fr)]) :
  ∃D',Le D D'∧Inv w0 D' (ss.eraseIdx i) w∧RB D' (.slice (some ⟨b,0,none⟩) 1 1) [n]:=lit_data [n] i hI hi (by intro x hx;simp only [List.mem_cons,List.not_mem_nil,or_false] at hx;omega)
theorem Equal_spec {w0 w:World} {D:Sto} {ss:List Seg} (hI:Inv w0 D ss w) {va vb:Value} {ka kb:List Nat} (ha:RB D va ka) (hb:RB D vb kb) :
  Calls Tryz.prog 160 #[va,vb] w (Ret fun r w'=>r= .bool (decide (ka=kb))∧Inv w0 D ss w'):=by
 obtain ⟨A1,c2,rfl,_⟩:=ha.slice;obtain ⟨A3,c4,rfl,_⟩:=hb.slice;refine enter (N:=10) Tryz.func160 rfl rfl rfl ?_;intro a hE;refine go 5 hE hI ?_;clear hE a;intro a hE;refine zl hE (r_toString hI rfl ha Tryz.underlying33 Tryz.underlying5 Tryz.underlying9) ?_;clear hE a;intro a hE;refine zm hE ?_;clear hE a;intro a hE;refine zl hE (r_toString hI rfl hb Tryz.underlying33 Tryz.underlying5 Tryz.underlying9) ?_;clear hE a;intro a hE;refine zs hE (p_strEql rfl rfl (strOf_eq ha.lt hb.lt)) ?_;clear hE a;intro a hE;refine go 3 hE hI ?_;clear hE a;intro a hE;refine ret1 rfl hE rfl ?_;exact ⟨rfl,hI⟩
theorem HasPrefix_spec {w0 w:World} {D:Sto} {ss:List Seg} (hI:Inv w0 D ss w) {vk vp:Value} {key pre:Bs} (hk:RB D vk key) (hp:RB D vp pre) (hlk:key.length≤100000) (hlp:pre.length≤100000) :
  Calls Tryz.prog 133 #[vk,vp] w (Ret fun r w'=>(r= .bool true∧begB pre key=true∧Inv w0 D ss w')∨(r= .bool false∧ ¬begB pre key=true∧Inv w0 D ss w')):=by
 obtain ⟨A1,c2,rfl,_⟩:=hk.slice;obtain ⟨A3,c4,rfl,_⟩:=hp.slice;refine enter (N:=18) Tryz.func133 rfl rfl rfl ?_;intro a hE;refine go 5 hE hI ?_;clear hE a;intro a hE;refine zs hE (p_len rfl rfl Tryz.underlying33) ?_;clear hE a;intro a hE;refine zm hE ?_;clear hE a;intro a hE;refine zs hE (p_len rfl rfl Tryz.underlying33) ?_;clear hE a;intro a hE;refine l_step rfl (o_cmp hE rfl rfl rfl rfl rfl rfl ?_ ?_)
 ·intro hlen;replace hlen:=geq_t hlen;clear hE a;intro a hE;refine go 3 hE hI ?_;clear hE a;intro a hE;refine gs hE (p_len rfl rfl Tryz.underlying33) ?_;clear hE a;intro a hE;refine l_go hE rfl (o_sliceRB (l:=0) (h:=pre.length) hE rfl rfl rfl rfl Tryz.underlying33 sz_5 (rfl) (lo_at rfl (by omega) (by omega)) (hk) (by omega) (by omega) ?_);clear hE a;intro A6 c7 hs5 a hE;refine gs hE (p_move rfl) ?_;clear hE a;intro a hE;refine l_go hE rfl (o_call hE rfl rfl rfl rfl ent_160 (Equal_spec hI hs5 hp) ?_);clear hI hE a;rintro r w ⟨rfl,hI⟩ a hE;obtain ⟨bf8,hbf9⟩: ∃b,decide ((((key).drop 0).take (pre.length - 0))=pre)=b:=⟨_,rfl⟩;rw [hbf9] at hE;replace hbf9:bf8=true↔((((key).drop 0).take (pre.length - 0))=pre):=by rw [←hbf9];exact decide_eq_true_iff
  refine go 4 hE hI ?_;clear hE a;intro a hE;refine ret1 rfl hE rfl ?_;rcases Bool.eq_false_or_eq_true bf8 with rfl|rfl
  ·replace hbf9:=iff_t hbf9;exact .inl ⟨rfl,by simp only [begB,Bool.and_eq_true,decide_eq_true_eq];exact ⟨by omega,by simpa using hbf9⟩,hI⟩
  replace hbf9:=iff_f hbf9;exact .inr ⟨rfl,by simp only [begB,Bool.and_eq_true,decide_eq_true_eq];rintro ⟨_,q⟩;exact hbf9 (by simpa using q),hI⟩
 intro hlen;replace hlen:=geq_f hlen;clear hE a;intro a hE;refine go 11 hE hI ?_;clear hE a;intro a hE;refine ret1 rfl hE rfl ?_;exact .inr ⟨rfl,by simp only [begB,Bool.and_eq_true,decide_eq_true_eq];rintro ⟨q,_⟩;omega,hI⟩
theorem PTold_spec {w0 w:World} {D:Sto} {ss:List Seg} (hI:Inv w0 D ss w) {vk vp:Value} {key pre:Bs} (hk:RB D vk key) (hp:RB D vp pre) {bt T:Nat} {fr:Nat×Nat} (hb:D bt=some (.cells #[vp] T fr)) (hlk:key.length≤100000) (hlp:pre.length≤100000) :
  Calls Tryz.prog 132 #[vk, .pointer (some ⟨bt,0,none⟩)] w (Ret fun r w'=>(r= .bool true∧begB pre key=true∧Inv w0 D ss w')∨(r= .bool false∧ ¬begB pre key=true∧Inv w0 D ss w')):=by
 obtain ⟨A1,c2,rfl,_⟩:=hk.slice;obtain ⟨A9,c9,rfl,_⟩:=hp.slice;refine enter (N:=7) Tryz.func132 rfl rfl rfl ?_;intro a hE;refine go 5 hE hI ?_;clear hE a;intro a hE;refine zl hE (f_load rfl scal_33 (hI.data _ _ (hb)) rfl) ?_;clear hE a;intro a hE;refine l_step rfl (o_call hE rfl rfl rfl rfl ent_133 (HasPrefix_spec hI hk hp hlk hlp) ?_);clear hI hE a;rintro r w h a hE;rcases h with ⟨rfl,h9,hI⟩|⟨rfl,h9,hI⟩
 ·refine go 3 hE hI ?_;clear hE a;intro a hE;refine ret1 rfl hE rfl ?_;exact .inl ⟨rfl,h9,hI⟩
 refine go 3 hE hI ?_;clear hE a;intro a hE;refine ret1 rfl hE rfl ?_;exact .inr ⟨rfl,h9,hI⟩
theorem Prefix1_spec {w0 w:World} {D:Sto} {ss ms:List Seg} {sp:Seg} {vp vf:Value} {P:Pl} {kv:Ens} {pre:Bs} {s l:Nat} {J Jx:Nat→Sto→List Seg→Prop} (hI:Inv w0 D (sp::(ms++ss)) w) {ad:Nat→Addr} (hS:TSents D ad) (hP:PoolS D vp P sp) (hO:PoolOk P kv) (hf:RB D vf pre) (hfl:pre.length≤32) (hs:fromK pre false kv=s) {b1 b2 T1 T2:Nat} {fr1 fr2:Nat×Nat} (hb1:D b1=some (.cells #[vf] T1 fr1)) (hb2:D b2=some (.cells #[vp] T2 fr2)) (hR:Rounds w0 D vp P l kv s (begB pre) J Jx) (hJ0:J 0 D ms) :
  Calls Tryz.prog 130 #[.func (.yield l) #[] #[], .pointer (some ⟨b1,0,none⟩), .pointer (some ⟨b2,0,none⟩)] w (Ret fun r w'=>IterPost w0 D ss vp P kv s (begB pre) J Jx w'):=by
 obtain ⟨q,hq⟩:=hP.ptr;subst hq;obtain ⟨A1,c1,rfl,_⟩:=hf.slice;refine enter (N:=16) Tryz.func130 rfl rfl rfl ?_;intro a hE;refine gc 2 hE ?_;refine zl hE (f_load rfl scal_33 (hI.data _ _ (hb1)) rfl) ?_;clear hE a;intro a hE;refine zs hE (p_len rfl rfl Tryz.underlying33) ?_;clear hE a;intro a hE;refine zs hE (p_cmp rfl rfl (gtr_n (by omega))) ?_;clear hE a;intro a hE;refine gc 5 hE ?_;refine zl hE (f_load rfl scal_26 (hI.data _ _ (hb2)) rfl) ?_;clear hE a;intro a hE;refine zl hE (f_load rfl scal_33 (hI.data _ _ (hb1)) rfl) ?_;clear hE a;intro a hE;refine zs hE (p_func (vs:= #[]) (us:= #[.pointer (some ⟨b1,0,none⟩)]) rfl rfl) ?_;clear hE a;intro a hE;refine zm hE ?_;clear hE a;intro a hE;refine l_step rfl (o_call hE rfl rfl rfl rfl ent_131 (each_spec (told:=begB pre) hI hS hP hO hf (by omega) hs ⟨132, #[.pointer (some ⟨b1,0,none⟩)],rfl,ent_132,fun w0 w D1 ss vk key hD hI hk hl=>PTold_spec hI hk (hf.mono hD) (hD _ _ hb1) hl (by omega)⟩ hR hJ0) ?_);clear hI hE a;rintro r w hpost a hE;refine wpList_nil ?_;refine ret0 rfl hE ?_;exact hpost
theorem Prefix_spec {w0 w:World} {D:Sto} {ss:List Seg} (hI:Inv w0 D ss w) {ad:Nat→Addr} (hS:TSents D ad) {P:Pl} {kv:Ens} (hO:PoolOk P kv) {q:Nat} {vf:Value} {pre:Bs} {s:Nat} (hf:RB D vf pre) (hfl:pre.length≤32) (hs:fromK pre false kv=s) :
  Calls Tryz.prog 78 #[.pointer (some ⟨q,0,none⟩),vf] w (Ret fun r w'=> ∃D',Le D D'∧SeqOk D' r (.pointer (some ⟨q,0,none⟩)) P kv s (begB pre)∧Inv w0 D' ss w'):=by
 obtain ⟨A1,c2,rfl,_⟩:=hf.slice;refine enter (N:=8) Tryz.func78 rfl rfl rfl ?_;intro a hE;refine wsr ?_;refine l_step rfl (f_box (cs:= #[_]) hE hI rfl rfl rfl rfl rfl ?_);clear hI hE a w;intro a b3 w hE hI;refine l_step rfl (f_box (cs:= #[_]) hE hI rfl rfl rfl rfl rfl ?_);clear hI hE a w;intro a b4 w hE hI;refine go 4 hE hI ?_;clear hE a;intro a hE;refine l_step rfl (o_call hE rfl rfl rfl rfl ent_73 (Clone_data (bs:=pre) hI hf (by omega)) ?_);clear hI hE a;rintro r w ⟨D5,hD6,hI,hb7⟩ a hE;obtain ⟨A8,c9,rfl,_⟩:=hb7.slice;refine l_step rfl (f_store (l:= [_]) (ss':=_::_) 0 hE hI rfl rfl rfl rfl rfl sz_33 (by simp [Value.cells,Value.oneCell',pgCells,rcCells,zPg]) rfl rfl rfl ?_);clear hI w;intro w hI;refine gc 2 hE ?_;refine zs hE (p_func (vs:= #[]) (us:= #[.pointer (some ⟨b4,0,none⟩), .pointer (some ⟨b3,0,none⟩)]) rfl rfl) ?_;clear hE a;intro a hE;refine go 3 hE hI ?_;clear hE a;intro a hE;refine ret1 rfl hE rfl ?_;have hle0:=hD6;obtain ⟨Da,hDa,hIa,hda⟩:=Inv.shut_one hI;obtain ⟨Db,hDb,hIb,hdb⟩:=Inv.shut_one hIa;have hl2:Le D5 Db:=hDa.trans hDb;refine ⟨Db,hle0.trans hl2,⟨130,_,rfl,ent_130,fun w0 w D9 ms ss sp l J Jx hD9 hI hP hR hJ=>Prefix1_spec hI ((hS.mono (hle0.trans hl2)).mono hD9) hP hO (hb7.mono (hl2.trans hD9)) hfl hs (hD9 _ _ (hDb _ _ hda)) (hD9 _ _ hdb) hR hJ⟩,hIb⟩
end Go.Proofs.YtkknmpkcfpdllaaGreatDoor.B
