/- What functions of the program compute, each function once: steps over the model, and the plain law of it. -/
import Derived.Test.YtkknmpkcfpdllaaDoorTCheck
import Derived.Test.YtkknmpkcfpdllaaDoorTTreeLawA
namespace Go.Proofs.YtkknmpkcfpdllaaDoor.B
open Go Go.Proofs
set_option linter.unusedVariables false
set_option linter.unusedSimpArgs false
theorem Inv.parted {w0 w:World} {D:Sto} {ss:List Seg} {s1 s2:Seg} (h:Inv w0 D ((s1++s2)::ss) w):Inv w0 D (s1::s2::ss) w:=h.perm (List.Perm.of_eq (by simp))
theorem BPut_ok {w0 w:World} {D:Sto} {ss:List Seg} {sb sp:Seg} {vb vp:Value} {b b':Bt} {P:Pl} (I:Inv w0 D (sb::sp::ss) w) {ad:Nat->Addr} (hS:TSents D ad) (hB:BatchS D vb vp b sb) (hP:PoolS D vp P sp) (hpool:b.pool=P.f) {vk vv:Value} {key val:Bs} (hk:RB D vk key) (hv:RB D vv val) (hlen:b.recs.length<=1000000000 - 8000) (hok:b.put key val= .ok b') :
  Calls Tryd.prog 10 #[vb,vk,vv] w (Ret fun r w'=>r= .nilIface/\ ∃D' sb' sp',Le D D'/\BatchS D' vb vp b' sb'/\PoolS D' vp P sp'/\Inv w0 D' (sb'::sp'::ss) w'):=by
 refine (BPut_spec I.merge hS (TreeS.join hB hP hpool) hk hv hlen).mono fun e w' h=> ?_;obtain ⟨r,he,h⟩:=h;refine ⟨r,he, ?_⟩;rcases h with ⟨b1,h1,rfl,D',s',hD,hT,hI'⟩|⟨c,o,h1,_⟩
 ·rw [hok] at h1;injection h1 with h1;subst h1
  obtain ⟨sb',sp',rfl,hB',hP',_⟩:=hT;exact ⟨rfl,D',sb',sp',hD,hB',hP',hI'.parted⟩
 rw [hok] at h1;cases h1
theorem BGet_ok {w0 w:World} {D:Sto} {ss:List Seg} {sb sp:Seg} {vb vp:Value} {b:Bt} {P:Pl} (I:Inv w0 D (sb::sp::ss) w) {ad:Nat->Addr} (hS:TSents D ad) (hB:BatchS D vb vp b sb) (hP:PoolS D vp P sp) (hpool:b.pool=P.f) {vk:Value} {key:Bs} (hk:RB D vk key) {res:Option Bs} (hok:b.get key= .ok res) :
  Calls Tryd.prog 32 #[vb,vk] w (Ret fun r w'=> ∃D' vr sb' sp',Le D D'/\r= .tuple #[vr, .bool res.isSome, .nilIface]/\RB D' vr (res.getD [])/\BatchS D' vb vp b sb'/\PoolS D' vp P sp'/\Inv w0 D' (sb'::sp'::ss) w'):=by
 refine (BGet_spec I.merge hS (TreeS.join hB hP hpool) hk).mono fun e w' h=> ?_;obtain ⟨r,he,h⟩:=h;refine ⟨r,he, ?_⟩;rcases h with ⟨res',h1,D',vr,hD,rfl,hr,hT,hI'⟩|⟨c,o,h1,_⟩
 ·rw [hok] at h1;injection h1 with h1;subst h1
  obtain ⟨sb',sp',hs,hB',hP',_⟩:=hT;rw [hs] at hI';exact ⟨D',vr,sb',sp',hD,rfl,hr,hB',hP',hI'.parted⟩
 rw [hok] at h1;cases h1
theorem Redo_ok {w0 w:World} {D:Sto} {ss:List Seg} {sb sp:Seg} {vb vp:Value} {b:Bt} {P:Pl} (I:Inv w0 D (sb::sp::ss) w) {ad:Nat->Addr} (hS:TSents D ad) (hB:BatchS D vb vp b sb) (hP:PoolS D vp P sp) (hpool:b.pool=P.f) (hlen:b.recs.length<=1000000000) :
  Calls Tryd.prog 12 #[vb] w (Ret fun r w'=> ∃D' sb' sp',Le D D'/\DR 10 RcR D' r b.recs/\BatchS D' vb vp b sb'/\PoolS D' vp P sp'/\Inv w0 D' (sb'::sp'::ss) w'):=by
 refine (Redo_spec I.merge hS (TreeS.join hB hP hpool) hlen).mono fun e w' h=> ?_;obtain ⟨r,he,D',hD,hI',hr,hT⟩:=h;refine ⟨r,he, ?_⟩;obtain ⟨sb',sp',hs,hB',hP',_⟩:=hT;rw [hs] at hI';exact ⟨D',sb',sp',hD,hr,hB',hP',hI'.parted⟩
open Go
set_option linter.unnecessarySimpa false
def noL (x:Pg):Pg:={x with lsn:=0}
theorem noL_eq {x y:Pg} (h:noL x=noL y):x.id=y.id/\x.level=y.level/\x.next=y.next/\x.ents=y.ents:=by
 unfold noL at h;injection h with h1 h2 h3 h4 h5
 exact ⟨h1,h3,h4,h5⟩
theorem effP_noL (x:Pg) (r:Rc):noL (effP x r)=effP (noL x) r:=by
 unfold effP noL;simp only []
 repeat' split
 all_goals first|rfl|contradiction
def PlOk (P:Pl) (n:Int):Prop:= ∀id x,P.f id=some x->PgOk x/\x.id=id/\x.lsn<n
theorem applyP_at {x:Pg} {r:Rc} {m:Int} (hid:x.id=r.page) (hl:x.lsn<m):applyP x {r with lsn:=m}={effP x r with lsn:=m}:=by unfold applyP;rw [if_neg (by simp only [];omega)];rfl
theorem pgOk_lsn {x:Pg} (h:PgOk x) (m:Int):PgOk {x with lsn:=m}:=⟨h.id,h.level,h.next,h.len,h.ents⟩
theorem PlOk.apply {P P':Pl} {r:Rc} {m:Int} (h:PlOk P m) (hm:0<m) (hr:RcOk r) (ha:P.apply {r with lsn:=m}=some P'):PlOk P' (m+1):=by
 have key: ∀(x:Pg),PgOk x->x.id=r.page->x.lsn<m->PgOk (applyP x {r with lsn:=m})/\(applyP x {r with lsn:=m}).id=r.page/\(applyP x {r with lsn:=m}).lsn<m+1:=by intro x h1 h2 h3;rw [applyP_at h2 h3];exact ⟨pgOk_lsn (effP_ok h1 hr) m,by show (effP x r).id=r.page;rw [(effP_id x r).1,h2],by show m<m+1;omega⟩
 rw [Pl.apply] at ha;simp only [] at ha;split at ha
 ·rename_i x hx;injection ha with ha;subst ha
  intro id y hy;simp only [] at hy;split at hy
  ·rename_i e;injection hy with hy;subst hy
   have:=h _ _ hx;rw [e];exact key x this.1 this.2.1 this.2.2
  have:=h _ _ hy;exact ⟨this.1,this.2.1,by omega⟩
 split at ha
 ·injection ha with ha;subst ha
  intro id y hy;simp only [] at hy;split at hy
  ·rename_i e;injection hy with hy;subst hy
   rw [e];exact key (newPg r.page) (newPg_pgok hr.page) rfl hm
  have:=h _ _ hy;exact ⟨this.1,this.2.1,by omega⟩
 cases ha
theorem laidP_ok: ∀(l:List Rc) {P P':Pl} {n m:Int},PlOk P n->0<n->(∀r∈l,RcOk r)->laidP P l n=some (P',m)->PlOk P' m
 | [],P,P',n,m,h,_,_,hl=>by rw [laidP] at hl;injection hl with hl;injection hl with h1 h2;subst h1;subst h2;exact h
 |r::l,P,P',n,m,h,hn,hr,hl=>by
  rw [laidP] at hl;split at hl
  ·cases hl
  split at hl
  ·cases hl
  rename_i P1 ha;exact laidP_ok l (h.apply hn (hr r (by simp)) ha) (by omega) (fun q hq=>hr q (by simp [hq])) hl
theorem laidP_snoc (r:Rc): ∀(l:List Rc) {P P':Pl} {n m:Int},laidP P l n=some (P',m)->laidP P (l++ [r]) n=if validR {r with lsn:=m}=false then none else match P'.apply {r with lsn:=m} with
  |none=>none
  |some P''=>some (P'',m+1)
 | [],P,P',n,m,h=>by
  rw [laidP] at h;injection h with h;injection h with h1 h2;subst h1;subst h2
  rw [List.nil_append,laidP];split
  ·rfl
  cases P.apply {r with lsn:=n}<;>rfl
 |q::l,P,P',n,m,h=>by
  rw [laidP] at h;rw [List.cons_append,laidP];split at h
  ·cases h
  rename_i hv;rw [if_neg hv];split at h
  ·cases h
  rename_i P1 ha;exact laidP_snoc r l h
theorem valid_ok {r:Rc} (h:RcOk r) {m:Int} (h1:1<=m) (h2:m<=1099511627776):validR {r with lsn:=m}=true:=by obtain ⟨⟨z1,z2,z3,z4⟩,a1,a2,a3,a4,a5⟩:=h;unfold validR;simp only [z2,z3,z4];exact decide_eq_true ⟨h1,h2,by omega,by omega,by omega,by omega,a1.1,a1.2,by omega,by omega,a3.1,a3.2,a2.1,a2.2,a4,a5⟩
def LInv (P:Pl) (n0:Int) (b:Bt):Prop:= ∃P',laidP P b.recs n0=some (P',n0+b.recs.length)/\PlOk P' (n0+b.recs.length)/\ ∀id,0<=id->id<256->(P'.f id).map noL=(b.view id).map noL
theorem view_of_page {b:Bt} {id:Int} {x:Pg} (h:b.page id= .ok x):b.view id=some x:=by
 rw [Bt.page] at h;rw [Bt.view];split at h
 ·rename_i y hy;rw [hy];injection h with h;rw [h]
 rename_i hy;rw [hy];split at h
 ·cases h
 rename_i hr;simp only [];rw [if_neg hr];split at h
 ·rename_i z hz;injection h with h;subst h;exact hz
 cases h
theorem LInv.doR {P:Pl} {n0:Int} {b b':Bt} {r:Rc} (h:LInv P n0 b) (h1:1<=n0) (h2:n0+b.recs.length<=1099511627776) (hr:RcOk r) (ha:AllOk b) (hd:b.doR r= .ok b'):LInv P n0 b'/\b'.recs.length=b.recs.length+1:=by
 obtain ⟨P',l1,l2,l3⟩:=h;have hrz:({r with lsn:=0}:Rc)=r:=by cases r;simp only [hr.z.1.symm]
 rw [Bt.doR] at hd;split at hd
 ·cases hd
 rename_i x hx;injection hd with hd
 have hx':x.id=r.page/\(r.kind≠1->b.view r.page=some x)/\(r.kind=1->x=newPg r.page):=by
  split at hx
  ·rename_i hk;injection hx with hx;subst hx;exact ⟨rfl,fun q=>absurd hk q,fun _=>rfl⟩
  rename_i hk;exact ⟨(ha _ _ hx).2,fun _=>view_of_page hx,fun q=>absurd q hk⟩
 have hlen:b'.recs.length=b.recs.length+1:=by subst hd;simp
 have hm:1<=n0+(b.recs.length:Int):=by omega
 have hvr:=valid_ok hr hm h2;have hvv:b'.view=b.view.upd r.page (effP x r):=by
  subst hd;funext k;rw [doPg_eff hx'.1.symm];by_cases hk:k=r.page
  ·subst hk;simp [Bt.view,Vw.upd]
  simp [Bt.view,Vw.upd,hk]
 have hrecs:b'.recs=b.recs++ [r]:=by subst hd;simp only [hrz]
 have hap: ∃P'' y,P'.apply {r with lsn:=n0+b.recs.length}=some P''/\(∀k,P''.f k=if k=r.page then some y else P'.f k)/\noL y=noL (effP x r):=by
  rw [Pl.apply];simp only [];have hl3:=l3 r.page hr.page.1 hr.page.2;cases hp:P'.f r.page with
  |some z=>
   have hz:=l2 _ _ hp;refine ⟨_,_,rfl,fun k=>rfl, ?_⟩;rw [applyP_at hz.2.1 hz.2.2];have e1:noL {effP z r with lsn:=n0+(b.recs.length:Int)}=noL (effP z r):=rfl;rw [e1];by_cases hk:r.kind=1
   ·rw [hx'.2.2 hk];unfold effP;rw [if_pos hk,if_pos hk];unfold noL newPg;simp only [hz.2.1]
   rw [hp,hx'.2.1 hk] at hl3;have hzx:noL z=noL x:=by simpa using hl3
   rw [effP_noL,effP_noL,hzx]
  |none=>
   have hk:r.kind=1:=by
    by_cases hk:r.kind=1
    ·exact hk
    rw [hp,hx'.2.1 hk] at hl3;simp at hl3
   rw [if_pos ⟨hk,hvr⟩];refine ⟨_,_,rfl,fun k=>rfl, ?_⟩;rw [applyP_at rfl (show (newPg r.page).lsn<n0+(b.recs.length:Int) by show (0:Int)<_;omega),hx'.2.2 hk];rfl
 obtain ⟨P'',y,a1,a2,a3⟩:=hap;have e2:n0+(b'.recs.length:Int)=n0+(b.recs.length:Int)+1:=by rw [hlen];omega
 refine ⟨⟨P'', ?_, ?_, ?_⟩,hlen⟩
 ·rw [e2,hrecs,laidP_snoc r _ l1,if_neg (by rw [hvr];simp),a1]
 ·rw [e2];exact l2.apply (by omega) hr a1
 intro id i1 i2;rw [a2 id,hvv];by_cases hk:id=r.page
 ·subst hk;rw [if_pos rfl,upd_same];simp [a3]
 rw [if_neg hk,upd_other hk];exact l3 id i1 i2
theorem LInv.all {P:Pl} {n0:Int} (h1:1<=n0) {b':Bt}: ∀(rs:List Rc) {b:Bt},LInv P n0 b->AllOk b->n0+b.recs.length+rs.length<=1099511627777->(∀r∈rs,RcOk r)->b.all rs= .ok b'->LInv P n0 b'/\b'.recs.length=b.recs.length+rs.length
 | [],b,h,_,_,_,ha=>by rw [Bt.all] at ha;injection ha with ha;subst ha;exact ⟨h,rfl⟩
 |r::rs,b,h,ho,hn,hr,ha=>by
  rw [Bt.all] at ha;split at ha
  ·cases ha
  rename_i b1 hb;simp only [List.length_cons] at hn ⊢;obtain ⟨g1,g2⟩:=h.doR h1 (by omega) (hr r (by simp)) ho hb;obtain ⟨g3,g4⟩:=LInv.all h1 rs g1 (ho.doR (hr r (by simp)) hb) (by omega) (fun q hq=>hr q (by simp [hq])) ha;exact ⟨g3,by omega⟩
theorem LInv.new {P:Pl} {n:Int} (h:PlOk P n):LInv P n (newBt P):=by
 refine ⟨P,by simp [newBt,laidP],by simpa [newBt] using h,fun id h1 h2=> ?_⟩;have:(newBt P).view id=P.f id:=by rw [Bt.view,newBt];simp only [];rw [if_neg (by omega)]
 rw [this]
theorem AllOk.new {P:Pl} {n:Int} (h:PlOk P n):AllOk (newBt P):=by
 intro id x hx;have:=view_of_page hx;rw [Bt.view,newBt] at this;simp only [] at this;split at this
 ·cases this
 exact ⟨(h _ _ this).1,(h _ _ this).2.1⟩
theorem map_noL {o:Option Pg} {x:Pg} {o':Option Pg} (h:o.map noL=o'.map noL) (hx:o'=some x): ∃y,o=some y/\noL y=noL x:=by
 subst hx;cases o with
 |none=>simp at h
 |some y=>exact ⟨y,rfl,by simpa using h⟩
theorem SubT.frameL {V V':Vw}: ∀(n:Nat) {id lo hi fl nx ids kv},(∀j∈ids,(V' j).map noL=(V j).map noL)->SubT V n id lo hi fl nx ids kv->SubT V' n id lo hi fl nx ids kv
 |0,id,lo,hi,fl,nx,ids,kv,hf,h=>by
  obtain ⟨h1,h2,x,h3,h4,h5,h6,h7,h8⟩:=h;obtain ⟨y,hy,e⟩:=map_noL (hf id (by rw [h2];simp)) h3;obtain ⟨_,e1,e2,e3⟩:=noL_eq e;exact ⟨h1,h2,y,hy,by rw [e1];exact h4,by rw [e2];exact h5,by rw [e3];exact h6,h7,h8⟩
 |n+1,id,lo,hi,fl,nx,ids,kv,hf,h=>by
  obtain ⟨js,h1,x,h2,h3,h4,h5,h6,h7⟩:=h;obtain ⟨y,hy,e⟩:=map_noL (hf id (by rw [h1];simp)) h2;obtain ⟨_,e1,e2,e3⟩:=noL_eq e;refine ⟨js,h1,y,hy,by rw [e1];exact h3,by rw [e2];exact h4,by rw [e3];exact h5,by rw [e3];exact h6, ?_⟩;rw [e3];exact Chs.mono _ (fun id lo hi fl nx is kv hj hs=>SubT.frameL n (fun j hjm=>hf j (by rw [h1];simp [hj j hjm])) hs) h7
theorem newBt_view {P:Pl} {id:Int} (h1:0<=id) (h2:id<256):(newBt P).view id=P.f id:=by rw [Bt.view,newBt];simp only [];rw [if_neg (by omega)]
theorem IdsOk.new {P:Pl} {n:Int} (h:PlOk P n):IdsOk (newBt P).view:=fun id x hx=>by
 rw [Bt.view,newBt] at hx;simp only [] at hx;split at hx
 ·cases hx
 exact (h _ _ hx).2.1
theorem makeR_ok: ∀r∈makeR,RcOk r:=by
 intro r hr;simp only [makeR,List.mem_cons,List.not_mem_nil,or_false] at hr;rcases hr with q|q|q<;>subst q
 ·exact ⟨⟨rfl,rfl,rfl,rfl⟩,⟨by simp,by simp⟩,⟨by simp,by simp⟩,⟨by simp,by simp⟩,by simp,by simp⟩
 ·exact ⟨⟨rfl,rfl,rfl,rfl⟩,⟨by simp,by simp⟩,⟨by simp,by simp⟩,⟨by simp,by simp⟩,by simp,by simp⟩
 exact ⟨⟨rfl,rfl,rfl,rfl⟩,⟨by simp,by simp⟩,⟨by simp,by simp⟩,⟨by simp,by simp⟩,by simp,by simp⟩
theorem E0_ok:PlOk E0 4:=laidP_ok makeR (P:=Pl.empty) (n:=1) (fun id x hx=>by simp [Pl.empty] at hx) (by omega) makeR_ok E0_laid
theorem E0_0: ∃x,E0.f 0=some x/\x.level=0/\x.next= -1/\x.ents= []:=by
 have h:(E0.f 0).map (fun x=>(x.level,x.next,x.ents))=some (0, -1, []):=by decide+kernel
 obtain ⟨x,h1,h2⟩:=Option.map_eq_some_iff.1 h;simp only [Prod.mk.injEq] at h2;exact ⟨x,h1,h2.1,h2.2.1,h2.2.2⟩
theorem E0_1: ∃x,E0.f 1=some x/\x.ents= [([110],twoB 2++twoB 0)]:=by
 have h:(E0.f 1).map (fun x=>x.ents)=some [([110],twoB 2++twoB 0)]:=by decide+kernel
 obtain ⟨x,h1,h2⟩:=Option.map_eq_some_iff.1 h;exact ⟨x,h1,h2⟩
end Go.Proofs.YtkknmpkcfpdllaaDoor.B
