/- What functions of the program compute, each function once: steps over the model, and the plain law of it. -/
import Derived.Test.YtkknmpkcfpdllaaGreatDoorTCheck
import Derived.Test.YtkknmpkcfpdllaaGreatDoorTTreeLawA
namespace Go.Proofs.YtkknmpkcfpdllaaGreatDoor.B
open Go Go.Proofs
set_option linter.unusedVariables false
set_option linter.unusedSimpArgs false
theorem Inv.parted {w0 w:World} {D:Sto} {ss:List Seg} {s1 s2:Seg} (h:Inv w0 D ((s1++s2)::ss) w):Inv w0 D (s1::s2::ss) w:=h.perm (List.Perm.of_eq (by simp))
theorem BPut_ok {w0 w:World} {D:Sto} {ss:List Seg} {sb sp:Seg} {vb vp:Value} {b b':Bt} {P:Pl} (hI:Inv w0 D (sb::sp::ss) w) {ad:Nat→Addr} (hS:TSents D ad) (hB:BatchS D vb vp b sb) (hP:PoolS D vp P sp) (hpool:b.pool=P.f) {vk vv:Value} {key val:Bs} (hk:RB D vk key) (hv:RB D vv val) (hlen:b.recs.length≤1000000000 - 8000) (hok:b.put key val= .ok b') :
  Calls Tryz.prog 21 #[vb,vk,vv] w (Ret fun r w'=>r= .nilIface∧ ∃D' sb' sp',Le D D'∧BatchS D' vb vp b' sb'∧PoolS D' vp P sp'∧Inv w0 D' (sb'::sp'::ss) w'):=by
 refine (BPut_spec hI.merge hS (TreeS.join hB hP hpool) hk hv hlen).mono fun e w' h=> ?_;obtain ⟨r,he,h⟩:=h;refine ⟨r,he, ?_⟩;rcases h with ⟨b1,h1,rfl,D',s',hD,hT,hI'⟩|⟨c,o,h1,_⟩
 ·rw [hok] at h1;injection h1 with h1;subst h1
  obtain ⟨sb',sp',rfl,hB',hP',_⟩:=hT;exact ⟨rfl,D',sb',sp',hD,hB',hP',hI'.parted⟩
 rw [hok] at h1;cases h1
theorem BGet_ok {w0 w:World} {D:Sto} {ss:List Seg} {sb sp:Seg} {vb vp:Value} {b:Bt} {P:Pl} (hI:Inv w0 D (sb::sp::ss) w) {ad:Nat→Addr} (hS:TSents D ad) (hB:BatchS D vb vp b sb) (hP:PoolS D vp P sp) (hpool:b.pool=P.f) {vk:Value} {key:Bs} (hk:RB D vk key) {res:Option Bs} (hok:b.get key= .ok res) :
  Calls Tryz.prog 94 #[vb,vk] w (Ret fun r w'=> ∃D' vr sb' sp',Le D D'∧r= .tuple #[vr, .bool res.isSome, .nilIface]∧RB D' vr (res.getD [])∧BatchS D' vb vp b sb'∧PoolS D' vp P sp'∧Inv w0 D' (sb'::sp'::ss) w'):=by
 refine (BGet_spec hI.merge hS (TreeS.join hB hP hpool) hk).mono fun e w' h=> ?_;obtain ⟨r,he,h⟩:=h;refine ⟨r,he, ?_⟩;rcases h with ⟨res',h1,D',vr,hD,rfl,hr,hT,hI'⟩|⟨c,o,h1,_⟩
 ·rw [hok] at h1;injection h1 with h1;subst h1
  obtain ⟨sb',sp',hs,hB',hP',_⟩:=hT;rw [hs] at hI';exact ⟨D',vr,sb',sp',hD,rfl,hr,hB',hP',hI'.parted⟩
 rw [hok] at h1;cases h1
theorem Redo_ok {w0 w:World} {D:Sto} {ss:List Seg} {sb sp:Seg} {vb vp:Value} {b:Bt} {P:Pl} (hI:Inv w0 D (sb::sp::ss) w) {ad:Nat→Addr} (hS:TSents D ad) (hB:BatchS D vb vp b sb) (hP:PoolS D vp P sp) (hpool:b.pool=P.f) (hlen:b.recs.length≤1000000000) :
  Calls Tryz.prog 24 #[vb] w (Ret fun r w'=> ∃D' sb' sp',Le D D'∧DR 10 RcR D' r b.recs∧BatchS D' vb vp b sb'∧PoolS D' vp P sp'∧Inv w0 D' (sb'::sp'::ss) w'):=by
 refine (Redo_spec hI.merge hS (TreeS.join hB hP hpool) hlen).mono fun e w' h=> ?_;obtain ⟨r,he,D',hD,hI',hr,hT⟩:=h;refine ⟨r,he, ?_⟩;obtain ⟨sb',sp',hs,hB',hP',_⟩:=hT;rw [hs] at hI';exact ⟨D',sb',sp',hD,hr,hB',hP',hI'.parted⟩
open Go
set_option linter.unnecessarySimpa false
def noL (x:Pg):Pg:={x with lsn:=0}
theorem noL_eq {x y:Pg} (h:noL x=noL y):x.id=y.id∧x.level=y.level∧x.next=y.next∧x.ents=y.ents:=by
 unfold noL at h;injection h with h1 h2 h3 h4 h5
 exact ⟨h1,h3,h4,h5⟩
theorem effP_noL (x:Pg) (r:Rc):noL (effP x r)=effP (noL x) r:=by
 unfold effP noL;simp only []
 repeat' split
 all_goals first|rfl|contradiction
def PlOk (P:Pl) (n:Int):Prop:= ∀id x,P.f id=some x→PgOk x∧x.id=id∧x.lsn<n
theorem PlOk.mono {P:Pl} {n m:Int} (h:PlOk P n) (hm:n≤m):PlOk P m:=fun id x hx=>⟨(h id x hx).1,(h id x hx).2.1,by have:=(h id x hx).2.2;omega⟩
theorem applyP_at {x:Pg} {r:Rc} {m:Int} (hid:x.id=r.page) (hl:x.lsn<m):applyP x {r with lsn:=m}={effP x r with lsn:=m}:=by unfold applyP;rw [if_neg (by simp only [];omega)];rfl
theorem pgOk_lsn {x:Pg} (h:PgOk x) (m:Int):PgOk {x with lsn:=m}:=⟨h.id,h.level,h.next,h.len,h.ents⟩
theorem PlOk.apply {P P':Pl} {r:Rc} {m:Int} (h:PlOk P m) (hm:0<m) (hr:RcOk r) (ha:P.apply {r with lsn:=m}=some P'):PlOk P' (m+1):=by
 have key: ∀(x:Pg),PgOk x→x.id=r.page→x.lsn<m→PgOk (applyP x {r with lsn:=m})∧(applyP x {r with lsn:=m}).id=r.page∧(applyP x {r with lsn:=m}).lsn<m+1:=by intro x h1 h2 h3;rw [applyP_at h2 h3];exact ⟨pgOk_lsn (effP_ok h1 hr) m,by show (effP x r).id=r.page;rw [(effP_id x r).1,h2],by show m<m+1;omega⟩
 rw [Pl.apply] at ha;simp only [] at ha;split at ha
 ·rename_i x hx;injection ha with ha;subst ha
  intro id y hy;simp only [] at hy;split at hy
  ·rename_i e;injection hy with hy;subst hy
   have:=h _ _ hx;rw [e];exact key x this.1 this.2.1 this.2.2
  have:=h _ _ hy;exact ⟨this.1,this.2.1,by omega⟩
 split at ha
 ·injection ha with ha;subst ha
  intro id y hy;simp only [] at hy;split at hy
  ·rename_i e;injection hy with hy;subst hy
   rw [e];exact key (newPg r.page) (newPg_pgok hr.page) rfl hm
  have:=h _ _ hy;exact ⟨this.1,this.2.1,by omega⟩
 cases ha
theorem laidP_ok: ∀(l:List Rc) {P P':Pl} {n m:Int},PlOk P n→0<n→(∀r∈l,RcOk r)→laidP P l n=some (P',m)→PlOk P' m
 | [],P,P',n,m,h,_,_,hl=>by rw [laidP] at hl;injection hl with hl;injection hl with h1 h2;subst h1;subst h2;exact h
 |r::l,P,P',n,m,h,hn,hr,hl=>by
  rw [laidP] at hl;split at hl
  ·cases hl
  split at hl
  ·cases hl
  rename_i P1 ha;exact laidP_ok l (h.apply hn (hr r (by simp)) ha) (by omega) (fun q hq=>hr q (by simp [hq])) hl
theorem laidP_snoc (r:Rc): ∀(l:List Rc) {P P':Pl} {n m:Int},laidP P l n=some (P',m)→laidP P (l++ [r]) n=if validR {r with lsn:=m}=false then none else match P'.apply {r with lsn:=m} with
  |none=>none
  |some P''=>some (P'',m+1)
 | [],P,P',n,m,h=>by
  rw [laidP] at h;injection h with h;injection h with h1 h2;subst h1;subst h2
  rw [List.nil_append,laidP];split
  ·rfl
  cases P.apply {r with lsn:=n}<;>rfl
 |q::l,P,P',n,m,h=>by
  rw [laidP] at h;rw [List.cons_append,laidP];split at h
  ·cases h
  rename_i hv;rw [if_neg hv];split at h
  ·cases h
  rename_i P1 ha;exact laidP_snoc r l h
theorem valid_ok {r:Rc} (h:RcOk r) {m:Int} (h1:1≤m) (h2:m≤1099511627776):validR {r with lsn:=m}=true:=by obtain ⟨⟨z1,z2,z3,z4⟩,a1,a2,a3,a4,a5⟩:=h;unfold validR;simp only [z2,z3,z4];exact decide_eq_true ⟨h1,h2,by omega,by omega,by omega,by omega,a1.1,a1.2,by omega,by omega,a3.1,a3.2,a2.1,a2.2,a4,a5⟩
def LInv (P:Pl) (n0:Int) (b:Bt):Prop:= ∃P',laidP P b.recs n0=some (P',n0+b.recs.length)∧PlOk P' (n0+b.recs.length)∧ ∀id,0≤id→id<256→(P'.f id).map noL=(b.view id).map noL
theorem view_of_page {b:Bt} {id:Int} {x:Pg} (h:b.page id= .ok x):b.view id=some x:=by
 rw [Bt.page] at h;rw [Bt.view];split at h
 ·rename_i y hy;rw [hy];injection h with h;rw [h]
 rename_i hy;rw [hy];split at h
 ·cases h
 rename_i hr;simp only [];rw [if_neg hr];split at h
 ·rename_i z hz;injection h with h;subst h;exact hz
 cases h
theorem LInv.doR {P:Pl} {n0:Int} {b b':Bt} {r:Rc} (h:LInv P n0 b) (h1:1≤n0) (h2:n0+b.recs.length≤1099511627776) (hr:RcOk r) (ha:AllOk b) (hd:b.doR r= .ok b'):LInv P n0 b'∧b'.recs.length=b.recs.length+1:=by
 obtain ⟨P',l1,l2,l3⟩:=h;have hrz:({r with lsn:=0}:Rc)=r:=by cases r;simp only [hr.z.1.symm]
 rw [Bt.doR] at hd;split at hd
 ·cases hd
 rename_i x hx;injection hd with hd
 have hx':x.id=r.page∧(r.kind≠1→b.view r.page=some x)∧(r.kind=1→x=newPg r.page):=by
  split at hx
  ·rename_i hk;injection hx with hx;subst hx;exact ⟨rfl,fun q=>absurd hk q,fun _=>rfl⟩
  rename_i hk;exact ⟨(ha _ _ hx).2,fun _=>view_of_page hx,fun q=>absurd q hk⟩
 have hlen:b'.recs.length=b.recs.length+1:=by subst hd;simp
 have hm:1≤n0+(b.recs.length:Int):=by omega
 have hvr:=valid_ok hr hm h2;have hvv:b'.view=b.view.upd r.page (effP x r):=by
  subst hd;funext k;rw [doPg_eff hx'.1.symm];by_cases hk:k=r.page
  ·subst hk;simp [Bt.view,Vw.upd]
  simp [Bt.view,Vw.upd,hk]
 have hrecs:b'.recs=b.recs++ [r]:=by subst hd;simp only [hrz]
 have hap: ∃P'' y,P'.apply {r with lsn:=n0+b.recs.length}=some P''∧(∀k,P''.f k=if k=r.page then some y else P'.f k)∧noL y=noL (effP x r):=by
  rw [Pl.apply];simp only [];have hl3:=l3 r.page hr.page.1 hr.page.2;cases hp:P'.f r.page with
  |some z=>
   have hz:=l2 _ _ hp;refine ⟨_,_,rfl,fun k=>rfl, ?_⟩;rw [applyP_at hz.2.1 hz.2.2];have e1:noL {effP z r with lsn:=n0+(b.recs.length:Int)}=noL (effP z r):=rfl;rw [e1];by_cases hk:r.kind=1
   ·rw [hx'.2.2 hk];unfold effP;rw [if_pos hk,if_pos hk];unfold noL newPg;simp only [hz.2.1]
   rw [hp,hx'.2.1 hk] at hl3;have hzx:noL z=noL x:=by simpa using hl3
   rw [effP_noL,effP_noL,hzx]
  |none=>
   have hk:r.kind=1:=by
    by_cases hk:r.kind=1
    ·exact hk
    rw [hp,hx'.2.1 hk] at hl3;simp at hl3
   rw [if_pos ⟨hk,hvr⟩];refine ⟨_,_,rfl,fun k=>rfl, ?_⟩;rw [applyP_at rfl (show (newPg r.page).lsn<n0+(b.recs.length:Int) by show (0:Int)<_;omega),hx'.2.2 hk];rfl
 obtain ⟨P'',y,a1,a2,a3⟩:=hap;have e2:n0+(b'.recs.length:Int)=n0+(b.recs.length:Int)+1:=by rw [hlen];omega
 refine ⟨⟨P'', ?_, ?_, ?_⟩,hlen⟩
 ·rw [e2,hrecs,laidP_snoc r _ l1,if_neg (by rw [hvr];simp),a1]
 ·rw [e2];exact l2.apply (by omega) hr a1
 intro id i1 i2;rw [a2 id,hvv];by_cases hk:id=r.page
 ·subst hk;rw [if_pos rfl,upd_same];simp [a3]
 rw [if_neg hk,upd_other hk];exact l3 id i1 i2
theorem LInv.all {P:Pl} {n0:Int} (h1:1≤n0) {b':Bt}: ∀(rs:List Rc) {b:Bt},LInv P n0 b→AllOk b→n0+b.recs.length+rs.length≤1099511627777→(∀r∈rs,RcOk r)→b.all rs= .ok b'→LInv P n0 b'∧b'.recs.length=b.recs.length+rs.length
 | [],b,h,_,_,_,ha=>by rw [Bt.all] at ha;injection ha with ha;subst ha;exact ⟨h,rfl⟩
 |r::rs,b,h,ho,hn,hr,ha=>by
  rw [Bt.all] at ha;split at ha
  ·cases ha
  rename_i b1 hb;simp only [List.length_cons] at hn ⊢;obtain ⟨g1,g2⟩:=h.doR h1 (by omega) (hr r (by simp)) ho hb;obtain ⟨g3,g4⟩:=LInv.all h1 rs g1 (ho.doR (hr r (by simp)) hb) (by omega) (fun q hq=>hr q (by simp [hq])) ha;exact ⟨g3,by omega⟩
theorem LInv.new {P:Pl} {n:Int} (h:PlOk P n):LInv P n (newBt P):=by
 refine ⟨P,by simp [newBt,laidP],by simpa [newBt] using h,fun id h1 h2=> ?_⟩;have:(newBt P).view id=P.f id:=by rw [Bt.view,newBt];simp only [];rw [if_neg (by omega)]
 rw [this]
theorem AllOk.new {P:Pl} {n:Int} (h:PlOk P n):AllOk (newBt P):=by
 intro id x hx;have:=view_of_page hx;rw [Bt.view,newBt] at this;simp only [] at this;split at this
 ·cases this
 exact ⟨(h _ _ this).1,(h _ _ this).2.1⟩
theorem map_noL {o:Option Pg} {x:Pg} {o':Option Pg} (h:o.map noL=o'.map noL) (hx:o'=some x): ∃y,o=some y∧noL y=noL x:=by
 subst hx;cases o with
 |none=>simp at h
 |some y=>exact ⟨y,rfl,by simpa using h⟩
theorem SubT.frameL {V V':Vw}: ∀(n:Nat) {id lo hi fl nx ids kv},(∀j∈ids,(V' j).map noL=(V j).map noL)→SubT V n id lo hi fl nx ids kv→SubT V' n id lo hi fl nx ids kv
 |0,id,lo,hi,fl,nx,ids,kv,hf,h=>by
  obtain ⟨h1,h2,x,h3,h4,h5,h6,h7,h8⟩:=h;obtain ⟨y,hy,e⟩:=map_noL (hf id (by rw [h2];simp)) h3;obtain ⟨_,e1,e2,e3⟩:=noL_eq e;exact ⟨h1,h2,y,hy,by rw [e1];exact h4,by rw [e2];exact h5,by rw [e3];exact h6,h7,h8⟩
 |n+1,id,lo,hi,fl,nx,ids,kv,hf,h=>by
  obtain ⟨js,h1,x,h2,h3,h4,h5,h6,h7⟩:=h;obtain ⟨y,hy,e⟩:=map_noL (hf id (by rw [h1];simp)) h2;obtain ⟨_,e1,e2,e3⟩:=noL_eq e;refine ⟨js,h1,y,hy,by rw [e1];exact h3,by rw [e2];exact h4,by rw [e3];exact h5,by rw [e3];exact h6, ?_⟩;rw [e3];exact Chs.mono _ (fun id lo hi fl nx is kv hj hs=>SubT.frameL n (fun j hjm=>hf j (by rw [h1];simp [hj j hjm])) hs) h7
theorem Holds.laid {b b':Bt} {kv:Ens} (h:Holds b kv) (hl:kv.length≤700) (hi:IdsOk b'.view) (hv: ∀id,0≤id→id<256→(b'.view id).map noL=(b.view id).map noL):Holds b' kv:=by
 obtain ⟨n,u,fl,ids,h⟩:=h;have hu:=(tr_small h hl).2;have hids: ∀j∈ids,(b'.view j).map noL=(b.view j).map noL:=fun j hj=>by have:=h.g.rg j hj;exact hv j this.1 (by omega)
 have hback: ∀j∈ids,∀x,b'.view j=some x→ ∃y,b.view j=some y∧y.ents=x.ents:=fun j hj x hx=>by
  obtain ⟨y,hy,e⟩:=map_noL (hids j hj).symm hx;exact ⟨y,hy,(noL_eq e).2.2.2⟩
 have h0:(0:Int)∈ids:=by obtain ⟨x,js,_,_,_,e⟩:=SubT.page h.s;rw [e];simp
 refine ⟨n,u,fl,ids,⟨⟨?_,hi,h.g.nd,h.g.rg,h.g.u1⟩,SubT.frameL n hids h.s, ?_,h.c, ?_⟩⟩
 ·obtain ⟨x,hx,he⟩:=h.g.m;obtain ⟨y,hy,e⟩:=map_noL (hv 1 (by omega) (by omega)) hx;exact ⟨y,hy,by rw [(noL_eq e).2.2.2];exact he⟩
 ·intro j hj hne x hx;obtain ⟨y,hy,e⟩:=hback j hj x hx;rw [←e];exact h.o j hj hne y hy
 intro x hx hn;obtain ⟨y,hy,e⟩:=hback 0 h0 x hx;rw [←e];exact h.r y hy hn
def PHolds (P:Pl) (n:Int) (kv:Ens):Prop:=PlOk P n∧Holds (newBt P) kv
theorem newBt_view {P:Pl} {id:Int} (h1:0≤id) (h2:id<256):(newBt P).view id=P.f id:=by rw [Bt.view,newBt];simp only [];rw [if_neg (by omega)]
theorem IdsOk.new {P:Pl} {n:Int} (h:PlOk P n):IdsOk (newBt P).view:=fun id x hx=>by
 rw [Bt.view,newBt] at hx;simp only [] at hx;split at hx
 ·cases hx
 exact (h _ _ hx).2.1
theorem laid_holds {P:Pl} {n:Int} {b:Bt} {kv:Ens} {k:Nat} (hP:PlOk P n) (h1:1≤n) (hr:Runs (newBt P) b k) (hk:n+k≤1099511627777) (hb:Holds b kv) (hl:kv.length≤700) :
  b.recs.length≤k∧ ∃P',laidP P b.recs n=some (P',n+b.recs.length)∧PHolds P' (n+b.recs.length) kv:=by
 obtain ⟨rs,r1,r2,r3⟩:=hr;have e0:(newBt P).recs.length=0:=rfl;obtain ⟨⟨P',l1,l2,l3⟩,e1⟩:=LInv.all h1 rs (LInv.new hP) (AllOk.new hP) (by rw [e0];omega) r2 r3;refine ⟨by omega,P',l1,l2,hb.laid hl (IdsOk.new l2) (fun id i1 i2=> ?_)⟩;rw [newBt_view i1 i2];exact l3 id i1 i2
theorem makeR_ok: ∀r∈makeR,RcOk r:=by
 intro r hr;simp only [makeR,List.mem_cons,List.not_mem_nil,or_false] at hr;rcases hr with q|q|q<;>subst q
 ·exact ⟨⟨rfl,rfl,rfl,rfl⟩,⟨by simp,by simp⟩,⟨by simp,by simp⟩,⟨by simp,by simp⟩,by simp,by simp⟩
 ·exact ⟨⟨rfl,rfl,rfl,rfl⟩,⟨by simp,by simp⟩,⟨by simp,by simp⟩,⟨by simp,by simp⟩,by simp,by simp⟩
 exact ⟨⟨rfl,rfl,rfl,rfl⟩,⟨by simp,by simp⟩,⟨by simp,by simp⟩,⟨by simp,by simp⟩,by simp,by simp⟩
theorem E0_ok:PlOk E0 4:=laidP_ok makeR (P:=Pl.empty) (n:=1) (fun id x hx=>by simp [Pl.empty] at hx) (by omega) makeR_ok E0_laid
theorem E0_0: ∃x,E0.f 0=some x∧x.level=0∧x.next= -1∧x.ents= []:=by
 have h:(E0.f 0).map (fun x=>(x.level,x.next,x.ents))=some (0, -1, []):=by decide+kernel
 obtain ⟨x,h1,h2⟩:=Option.map_eq_some_iff.1 h;simp only [Prod.mk.injEq] at h2;exact ⟨x,h1,h2.1,h2.2.1,h2.2.2⟩
theorem E0_1: ∃x,E0.f 1=some x∧x.ents= [([110],twoB 2++twoB 0)]:=by
 have h:(E0.f 1).map (fun x=>x.ents)=some [([110],twoB 2++twoB 0)]:=by decide+kernel
 obtain ⟨x,h1,h2⟩:=Option.map_eq_some_iff.1 h;exact ⟨x,h1,h2⟩
theorem E0_holds:PHolds E0 4 []:=by
 refine ⟨E0_ok,0,2,0, [0],⟨⟨?_,IdsOk.new E0_ok,by simp,by simp,by omega⟩, ?_, ?_,by simp, ?_⟩⟩
 ·obtain ⟨x,h1,h2⟩:=E0_1;exact ⟨x,by rw [newBt_view (by omega) (by omega)];exact h1,h2⟩
 ·obtain ⟨x,h1,h2,h3,h4⟩:=E0_0;exact ⟨rfl,rfl,x,by rw [newBt_view (by omega) (by omega)];exact h1,h2,h3,h4,by simp,by simp [Sorted],by simp⟩
 ·intro j hj hne;simp at hj;exact absurd hj hne
 intro x _ h;omega
def Chn (V:Vw):Nat→Int→Int→Ens→Prop
 |0,fl,nx,kv=>fl=nx∧kv= []
 |m+1,fl,nx,kv=> ∃x kv2,V fl=some x∧kv=x.ents++kv2∧Chn V m x.next nx kv2
theorem Chn.append {V:Vw} {md nx:Int} {kv2:Ens} {m2:Nat} (h2:Chn V m2 md nx kv2): ∀(m:Nat) {fl:Int} {kv1:Ens},Chn V m fl md kv1→Chn V (m+m2) fl nx (kv1++kv2)
 |0,fl,kv1,h=>by obtain ⟨rfl,rfl⟩:=h;simpa using h2
 |m+1,fl,kv1,h=>by
  obtain ⟨x,k,h3,rfl,h4⟩:=h;rw [show m+1+m2=(m+m2)+1 by omega];exact ⟨x,k++kv2,h3,by rw [List.append_assoc],Chn.append h2 m h4⟩
theorem Chs.chain {C:CP} {V:Vw}: ∀(es:Ens) {lo hi fl nx ids kv},(∀id lo hi fl nx js kv,C id lo hi fl nx js kv→ ∃m,m≤js.length∧Chn V m fl nx kv)→Chs C es lo hi fl nx ids kv→ ∃m,m≤ids.length∧Chn V m fl nx kv
 | [],_,_,_,_,_,_,_,h=>h.elim
 | [e],_,_,_,_,_,_,hC,h=>hC _ _ _ _ _ _ _ h.2
 |e::e2::r,_,_,_,_,_,_,hC,h=>by
  obtain ⟨h0,h1,h2,md,i1,i2,k1,k2,rfl,rfl,h3,h4⟩:=h;obtain ⟨m1,l1,c1⟩:=hC _ _ _ _ _ _ _ h3;obtain ⟨m2,l2,c2⟩:=Chs.chain (e2::r) hC h4;exact ⟨m1+m2,by rw [List.length_append];omega,Chn.append c2 m1 c1⟩
theorem SubT.chain {V:Vw}: ∀(n:Nat) {id lo hi fl nx ids kv},SubT V n id lo hi fl nx ids kv→ ∃m,m≤ids.length∧Chn V m fl nx kv
 |0,id,_,_,_,_,_,_,h=>by
  obtain ⟨rfl,rfl,x,h3,h4,h5,h6,_⟩:=h;exact ⟨1,by simp,x, [],h3,by rw [h6];simp,by rw [h5];exact ⟨rfl,rfl⟩⟩
 |n+1,id,_,_,_,_,_,_,h=>by
  obtain ⟨js,rfl,x,_,_,_,_,_,h7⟩:=h;obtain ⟨m,l,c⟩:=Chs.chain _ (fun _ _ _ _ _ _ _ hs=>SubT.chain n hs) h7;exact ⟨m,by simp only [List.length_cons];omega,c⟩
theorem Chs.sides {C:CP} {V:Vw} (hK: ∀id lo hi fl nx js kv,C id lo hi fl nx js kv→KvOk lo hi kv) (hC: ∀id lo hi fl nx js kv,C id lo hi fl nx js kv→ ∃m,m≤js.length∧Chn V m fl nx kv) :
  ∀(es:Ens) (e:Bs×Bs) {lo hi fl nx ids kv} {key:Bs},Chs C (e::es) lo hi fl nx ids kv→InR lo hi key→
  ∃pre c post lo' hi' fl' nx' ids' kvL kv' kvR m mi,e::es=pre++c::post∧pre.length=cnt key es∧InR lo' hi' key∧c.2.length=2∧C (numberP c.2) lo' hi' fl' nx' ids' kv'∧kv=kvL++kv'++kvR∧
   (∀e∈kvL,ltB e.1 key=true)∧(∀e∈kvR,ltB key e.1=true)∧Chn V m nx' nx kvR∧m+ids'.length+mi=ids.length
 | [],e,lo,hi,fl,nx,ids,kv,key,h,hk=>⟨[],e, [],lo,hi,fl,nx,ids, [],kv, [],0,0,rfl,rfl,hk,h.1,h.2,by simp,by simp,by simp,⟨rfl,rfl⟩,by omega⟩
 |e2::r,e,lo,hi,fl,nx,ids,kv,key,h,hk=>by
  obtain ⟨h0,h1,h2,md,i1,i2,k1,k2,rfl,rfl,h3,h4⟩:=h;by_cases hlt:ltB key e2.1=true
  ·obtain ⟨m,lm,cm⟩:=Chs.chain (e2::r) hC h4;refine ⟨[],e,e2::r,lo,some e2.1,fl,md,i1, [],k1,k2,m,i2.length - m,rfl,by simp [cnt,hlt],⟨hk.1,hlt⟩,h0,h3,by simp,by simp,fun q hq=> ?_,cm,by rw [List.length_append];omega⟩;exact ltB_le_trans hlt ((Chs.kv hK (e2::r) h4).2 q hq).2.1
  have hge:ltB key e2.1=false:=by simpa using hlt
  obtain ⟨pre,c,post,lo',hi',fl',nx',ids',kvL,kv',kvR,m,mi,g1,g2,g3,g4,g5,rfl,g7,g8,g9,g10⟩:=Chs.sides hK hC r e2 h4 ⟨hge,hk.2⟩;refine ⟨e::pre,c,post,lo',hi',fl',nx',ids',k1++kvL,kv',kvR,m,mi+i1.length,by rw [g1];rfl,by simp [cnt,hlt,g2],g3,g4,g5,by simp,fun q hq=> ?_,g8,g9,by rw [List.length_append];omega⟩;rcases List.mem_append.1 hq with q1|q1
  ·have:=((hK _ _ _ _ _ _ _ h3).2 q q1).2.2;exact ltB_le_trans this hge
  exact g7 q q1
theorem down_sides {b:Bt} {key:Bs} (hi0:IdsOk b.view): ∀(n f:Nat) {id lo hi fl nx ids kv} (l:List Pg) (ks:List Nat),n+1≤f→SubT b.view n id lo hi fl nx ids kv→InR lo hi key→
  ∃l' ks' y kvL kvR m,b.downF key f id l ks= .ok (l++l'++ [y],ks++ks')∧kv=kvL++y.ents++kvR∧Sorted y.ents∧(∀e∈kvL,ltB e.1 key=true)∧(∀e∈kvR,ltB key e.1=true)∧Chn b.view m y.next nx kvR∧m+1≤ids.length
 |0,f,id,lo,hi,fl,nx,ids,kv,l,ks,hf,hs,hk=>by
  obtain ⟨f,rfl⟩: ∃g,f=g+1:=⟨f - 1,by omega⟩;obtain ⟨rfl,rfl,y,hy,h1,h2,h3,h4,h5,h6⟩:=hs;subst h3;exact ⟨[], [],y, [], [],0,by rw [Bt.downF,page_of_view hy];simp only [];rw [if_pos h1];simp,by simp,h5,by simp,by simp,⟨h2,rfl⟩,by simp⟩
 |n+1,f,id,lo,hi,fl,nx,ids,kv,l,ks,hf,hs,hk=>by
  obtain ⟨f,rfl⟩: ∃g,f=g+1:=⟨f - 1,by omega⟩;obtain ⟨js,rfl,x,hx,hlv,hxn,hlen,⟨v,r,hes⟩,hch⟩:=hs;rw [hes] at hch;obtain ⟨pre,c,post,lo',hi',fl',nx',ids',kvL,kv',kvR,m,mi,g1,g2,g3,g4,g5,rfl,g7,g8,g9,g10⟩:=Chs.sides (V:=b.view) (fun _ _ _ _ _ _ _ hs=>SubT.kv n hs) (fun _ _ _ _ _ _ _ hs=>SubT.chain n hs) r ([],v) hch hk;have hcp:childP x key=pre.length:=by rw [childP_cnt hes (Chs.rise _ _ hch),g2]
  have hget:x.ents[pre.length]? =some c:=by rw [hes,g1];simp
  have hlt:pre.length<x.ents.length:=by rw [hes,g1];simp
  have hat:atP x (childP x key:Nat)= .ok (numberP c.2):=by
   have hd:x.ents.getD ((pre.length:Int)).toNat ([], [])=c:=by simp [List.getD,hget]
   rw [atP,hcp,if_neg (by omega),hd,if_neg (by simp [g4])]
  obtain ⟨l',ks',z,kL,kR,m2,hr,rfl,w1,w2,w3,w4,w5⟩:=down_sides hi0 n f (l++ [x]) (ks++ [childP x key]) (by omega) g5 g3;refine ⟨x::l',childP x key::ks',z,kvL++kL,kR++kvR,m2+m, ?_,by simp,w1,fun q hq=> ?_,fun q hq=> ?_,Chn.append g9 m2 w4,by simp only [List.length_cons];omega⟩
  ·rw [Bt.downF,page_of_view hx];simp only [];rw [if_neg (by omega),hat];simp only [];rw [hr];simp
  ·rcases List.mem_append.1 hq with q1|q1
   ·exact g7 q q1
   exact w2 q q1
  rcases List.mem_append.1 hq with q1|q1
  ·exact w3 q q1
  exact g8 q q1
def fromKv (key:Bs) (above:Bool):Ens→Option (Bs×Bs)
 | []=>none
 |e::r=>if ltB e.1 key=true∨(above=true∧e.1=key) then fromKv key above r else some e
theorem fromKv_append (key:Bs) (above:Bool) (R:Ens): ∀l:Ens,fromKv key above (l++R)=match fromKv key above l with
  |some e=>some e
  |none=>fromKv key above R
 | []=>rfl
 |e::r=>by
  rw [List.cons_append,fromKv,fromKv];split
  ·exact fromKv_append key above R r
  rfl
theorem fromKv_left {key:Bs} {above:Bool} {l:Ens}: ∀L:Ens,(∀e∈L,ltB e.1 key=true)→fromKv key above (L++l)=fromKv key above l
 | [],_=>rfl
 |e::r,h=>by rw [List.cons_append,fromKv,if_pos (.inl (h e (by simp))),fromKv_left r (fun q hq=>h q (by simp [hq]))]
theorem fromKv_right {key:Bs} {above:Bool} {R:Ens} (h: ∀e∈R,ltB key e.1=true):fromKv key above R=R[0]? :=by
 cases R with
 |nil=>rfl
 |cons e r=>
  have h1:=h e (by simp);rw [fromKv,if_neg]
  ·rfl
  rintro (q|⟨_,q⟩)
  ·rw [ltB_asymm h1] at q;cases q
  rw [q,ltB_irrefl] at h1;cases h1
def fromK (key:Bs) (above:Bool) (l:Ens):Nat:=if (findP l key).2 && above then (findP l key).1+1 else (findP l key).1
theorem fromKv_at {key:Bs} {above:Bool}: ∀l:Ens,Sorted l→fromKv key above l=l[fromK key above l]?
 | [],_=>by simp [fromKv]
 |e::r,hs=>by
  have hs':=List.pairwise_cons.1 hs;have ih:=fromKv_at (key:=key) (above:=above) r hs'.2;rw [fromKv,fromK,findP];by_cases h1:ltB e.1 key=true
  ·rw [if_pos (.inl h1),if_pos h1,ih,fromK];simp only [];split<;>rfl
  rw [if_neg h1];by_cases h2:e.1=key
  ·cases above with
   |true=>
    rw [if_pos (.inr ⟨rfl,h2⟩),fromKv_right (fun q hq=>by rw [←h2];exact hs'.1 q hq)];simp [h2]
   |false=>
    rw [if_neg (by rintro (q|⟨q,_⟩);exact h1 q;cases q)];simp
  rw [if_neg (by rintro (q|⟨_,q⟩);exact h1 q;exact h2 q)];simp [h2]
theorem fromF_law {b:Bt} (ha:AllOk b) {key:Bs} {above:Bool}: ∀(m f:Nat) {x:Pg} {kvR:Ens},m+1≤f→Chn b.view m x.next (-1) kvR→Sorted x.ents→(∀e∈kvR,ltB key e.1=true)→Sorted kvR→
  b.fromF key above f x= .ok (fromKv key above (x.ents++kvR))
 |m,0,x,kvR,hf,_,_,_,_=>by omega
 |m,f+1,x,kvR,hf,hc,hs,hR,hsR=>by
  have hat:=fromKv_at (key:=key) (above:=above) x.ents hs;rw [fromKv_append,hat,Bt.fromF];have hk:(if ((findP x.ents key).2 && above)=true then (findP x.ents key).1+1 else (findP x.ents key).1)=fromK key above x.ents:=rfl;rw [hk];by_cases hlt:fromK key above x.ents<x.ents.length
  ·rw [if_pos hlt,List.getElem?_eq_getElem hlt];simp [List.getD,List.getElem?_eq_getElem hlt]
  rw [if_neg hlt,List.getElem?_eq_none (by omega)];simp only [];cases m with
  |zero=>
   obtain ⟨h1,rfl⟩:=hc;rw [if_pos h1];rfl
  |succ m=>
   obtain ⟨y,k2,hy,rfl,hc2⟩:=hc;have hp:=page_of_view hy;have hrg:=page_lt ha hp;rw [if_neg (by omega),hp];have hsy:=(List.pairwise_append.1 hsR);exact fromF_law ha m f (by omega) hc2 hsy.1 (fun e he=>hR e (by simp [he])) hsy.2.1
theorem Holds.from_ {b:Bt} {kv:Ens} {key:Bs} (h:Holds b kv) (ha:AllOk b) (hl:kv.length≤700) (above:Bool) (hk:key.length≤32):b.from_ key above= .ok (fromKv key above kv):=by have hso:=h.sorted;obtain ⟨n,u,fl,ids,h⟩:=h;obtain ⟨h1,h2⟩:=tr_small h hl;have hc:=h.c;obtain ⟨l',ks',y,kvL,kvR,m,hd,rfl,w1,w2,w3,w4,w5⟩:=down_sides (key:=key) h.g.i n 17 [] [] (by omega) h.s (InR.all key);have hlast:lastPg ([]++l'++ [y])=y:=lastPg_end _ _;have hsR:Sorted kvR:=(List.pairwise_append.1 hso).2.1;rw [Bt.from_,if_neg (by omega),Bt.down,hd];simp only [hlast];rw [List.append_assoc,fromKv_left _ w2];exact fromF_law ha m 256 (by omega) w4 w1 w3 hsR
end Go.Proofs.YtkknmpkcfpdllaaGreatDoor.B
