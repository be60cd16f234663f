/- What functions of the program compute, each function once: steps over the model, and the plain law of it. -/
import Derived.Test.YtkknmpkcfpdllaaGreatDoorTTree6
namespace Go.Proofs.YtkknmpkcfpdllaaGreatDoor.B
open Go
set_option linter.unusedVariables false
set_option linter.unusedSimpArgs false
set_option linter.unnecessarySimpa false
abbrev Vw:=Int->Option Pg
def Bt.view (b:Bt):Vw:=fun id=>match b.own id with
 |some x=>some x
 |none=>if id<0\/256<=id then none else b.pool id
def Vw.upd (V:Vw) (id:Int) (x:Pg):Vw:=fun k=>if k=id then some x else V k
theorem upd_same (V:Vw) (id:Int) (x:Pg):V.upd id x id=some x:=by simp [Vw.upd]
theorem upd_other {V:Vw} {id k:Int} {x:Pg} (h:k≠id):V.upd id x k=V k:=by simp [Vw.upd,h]
def IdsOk (V:Vw):Prop:= ∀id x,V id=some x->x.id=id
theorem IdsOk.upd {V:Vw} (h:IdsOk V) {id:Int} {x:Pg} (hx:x.id=id):IdsOk (V.upd id x):=fun k y hy=>by
 by_cases hk:k=id
 ·subst hk;rw [upd_same] at hy;injection hy with hy;subst hy;exact hx
 rw [upd_other hk] at hy;exact h k y hy
theorem page_of_view {b:Bt} {id:Int} {x:Pg} (h:b.view id=some x):b.page id= .ok x:=by
 rw [Bt.view] at h;rw [Bt.page];cases ho:b.own id with
 |some y=>rw [ho] at h;simp only [] at h ⊢;injection h with h;rw [h]
 |none=>
  rw [ho] at h;simp only [] at h ⊢;split at h
  ·cases h
  rename_i hr;rw [if_neg hr,h]
theorem effP_id (p:Pg) (r:Rc):(effP p r).id=p.id/\(effP p r).lsn=p.lsn:=by
 unfold effP
 repeat' split
 all_goals exact ⟨rfl,rfl⟩
theorem effP_lsn (p:Pg) (r:Rc) (n m:Int):{effP {p with lsn:=n} {r with lsn:=m} with lsn:=p.lsn}=effP p r:=by
 unfold effP;simp only []
 repeat' split
 all_goals first|rfl|omega
theorem doPg_eff {p:Pg} {r:Rc} (h:r.page=p.id):doPg p r=effP p r:=by
 unfold doPg applyP;split
 ·rename_i hb;rw [if_neg (by simp only [ne_eq];omega)];exact effP_lsn p r 0 1
 rename_i hb;rw [if_neg (by simp only [ne_eq];omega)];have:=effP_lsn p r p.lsn (p.lsn+1);exact this
theorem doR_view {b:Bt} {r:Rc} {x:Pg} (hv:(r.kind=1/\x=newPg r.page)\/(r.kind≠1/\b.view r.page=some x)) (hid:x.id=r.page): ∃b',b.doR r= .ok b'/\b'.view=b.view.upd r.page (effP x r):=by
 have hd:doPg x r=effP x r:=doPg_eff hid.symm;have key: ∀b':Bt,b'={b with own:=fun k=>if k=r.page then some (doPg x r) else b.own k,recs:=b.recs++ [{r with lsn:=0}]}->b'.view=b.view.upd r.page (effP x r):=by
  rintro b' rfl;funext k;by_cases hk:k=r.page
  ·subst hk;simp [Bt.view,Vw.upd,hd]
  simp [Bt.view,Vw.upd,hk]
 rcases hv with ⟨h1,h2⟩|⟨h1,h2⟩
 ·subst h2;exact ⟨_,by rw [Bt.doR,if_pos h1],key _ rfl⟩
 exact ⟨_,by rw [Bt.doR,if_neg h1,page_of_view h2],key _ rfl⟩
def clrK (level:Int):Ens->Ens
 | []=> []
 |e::r=>(if 0<level then [] else e.1,e.2)::r
theorem clrK_len (level:Int) (l:Ens):(clrK level l).length=l.length:=by cases l<;>rfl
theorem insertIdx_len {α:Type} (l:List α) (x:α):l.insertIdx l.length x=l++ [x]:=insertIdx_end l x
theorem fillR_view {id level:Int}: ∀(l:Ens) (i:Nat) (b:Bt) (x:Pg),b.view id=some x->x.id=id->x.ents.length=i->i+l.length<=8->
  ∃b',b.all (fillR id level i l)= .ok b'/\b'.view=b.view.upd id {x with ents:=x.ents++if i=0 then clrK level l else l}
 | [],i,b,x,hv,hid,hi,hl=>by
  refine ⟨b,rfl, ?_⟩;funext k;by_cases hk:k=id
  ·subst hk;rw [upd_same,hv];have:(if i=0 then clrK level ([]:Ens) else [])= []:=by split<;>rfl
   rw [this,List.append_nil]
  rw [upd_other hk]
 |e::r,i,b,x,hv,hid,hi,hl=>by
  simp only [List.length_cons] at hl;obtain ⟨b1,h1,hv1⟩:=doR_view (b:=b) (r:={page:=id,kind:=2,slot:=(i:Nat),key:=if 0<level/\i=0 then [] else e.1,val:=e.2}) (x:=x) (.inr ⟨by simp,hv⟩) hid;have he:effP x {page:=id,kind:=2,slot:=(i:Nat),key:=if 0<level/\i=0 then [] else e.1,val:=e.2}={x with ents:=x.ents++ [(if 0<level/\i=0 then [] else e.1,e.2)]}:=by
   unfold effP;rw [if_neg (by simp),if_pos rfl,if_pos (by omega)];have hm:(min ((i:Nat):Int) (x.ents.length:Nat)).toNat=x.ents.length:=by omega
   rw [hm,insertIdx_len]
  rw [he] at hv1;obtain ⟨b2,h2,hv2⟩:=fillR_view r (i+1) b1 {x with ents:=x.ents++ [(if 0<level/\i=0 then [] else e.1,e.2)]} (by rw [hv1,upd_same]) hid (by simp [hi]) (by omega);refine ⟨b2,by rw [fillR,Bt.all,h1];exact h2, ?_⟩;rw [hv2,hv1];funext k;by_cases hk:k=id
  ·subst hk;rw [upd_same,upd_same,if_neg (show¬i+1=0 by omega)];by_cases h0:i=0
   ·simp [h0,clrK]
   simp [h0]
  rw [upd_other hk,upd_other hk,upd_other hk]
theorem all_append: ∀(l m:List Rc) {b b1:Bt},b.all l= .ok b1->b.all (l++m)=b1.all m
 | [],m,b,b1,h=>by rw [Bt.all] at h;injection h with h;subst h;rfl
 |r::l,m,b,b1,h=>by
  rw [Bt.all] at h;rw [List.cons_append,Bt.all];cases hd:b.doR r with
  |fail c o=>rw [hd] at h;cases h
  |ok b2=>rw [hd] at h;exact all_append l m h
theorem fill_view {b:Bt} {id level next:Int} {l:Ens} (hl:l.length<=8) (h1:level<=16) (hn:next<256) :
  ∃b',b.fill id level l next= .ok b'/\b'.view=b.view.upd id ⟨id,0,level,next,clrK level l⟩:=by
 obtain ⟨b1,h1',hv1⟩:=doR_view (b:=b) (r:={page:=id,kind:=1,slot:=level}) (x:=newPg id) (.inl ⟨rfl,rfl⟩) rfl;have he:effP (newPg id) {page:=id,kind:=1,slot:=level}=⟨id,0,level, -1, []⟩:=by unfold effP;rw [if_pos rfl];simp only [newPg];congr 1;omega
 rw [he] at hv1;obtain ⟨b2,h2,hv2⟩:=fillR_view (level:=level) l 0 b1 ⟨id,0,level, -1, []⟩ (by rw [hv1];exact upd_same b.view id _) rfl rfl (by omega);simp only [List.nil_append,if_true] at hv2;have hall:b.fill id level l next=b2.all (linkR id next):=by rw [fill_start h1',List.drop_zero];exact all_append _ _ h2
 by_cases hx:next= -1
 ·refine ⟨b2,by rw [hall,linkR,if_pos hx];rfl, ?_⟩;rw [hv2,hv1];funext k;by_cases hk:k=id
  ·subst hk;rw [upd_same,upd_same,hx]
  rw [upd_other hk,upd_other hk,upd_other hk]
 obtain ⟨b3,h3,hv3⟩:=doR_view (b:=b2) (r:={page:=id,kind:=5,slot:=next}) (x:=⟨id,0,level, -1,clrK level l⟩) (.inr ⟨by simp,by rw [hv2];exact upd_same _ _ _⟩) rfl;have he3:effP ⟨id,0,level, -1,clrK level l⟩ {page:=id,kind:=5,slot:=next}=⟨id,0,level,next,clrK level l⟩:=by unfold effP;rw [if_neg (by simp),if_neg (by simp),if_neg (by simp),if_neg (by simp),if_pos rfl,if_neg (by simp only [];omega)]
 rw [he3] at hv3;refine ⟨b3,by rw [hall,linkR,if_neg hx,Bt.all,h3];rfl, ?_⟩;rw [hv3,hv2,hv1];funext k;by_cases hk:k=id
 ·subst hk;rw [upd_same,upd_same]
 rw [upd_other hk,upd_other hk,upd_other hk,upd_other hk]
theorem ltB_irrefl: ∀a:Bs,ltB a a=false
 | []=>rfl
 |x::xs=>by simp [ltB,ltB_irrefl xs]
theorem ltB_trans: ∀{a b c:Bs},ltB a b=true->ltB b c=true->ltB a c=true
 |_, [],_,h,_=>by cases ‹Bs› <;>simp [ltB] at h
 |_,_::_, [],_,k=>by simp [ltB] at k
 | [],_::_,_::_,_,_=>rfl
 |x::xs,y::ys,z::zs,h,k=>by
  simp only [ltB] at h k ⊢;by_cases h1:x=y
  ·subst h1;rw [if_pos rfl] at h;by_cases h2:x=z
   ·subst h2;rw [if_pos rfl] at k ⊢;exact ltB_trans h k
   rw [if_neg h2] at k ⊢;exact k
  rw [if_neg h1] at h;have h':x<y:=by simpa using h
  by_cases h2:y=z
  ·subst h2;rw [if_neg h1];exact h
  rw [if_neg h2] at k;have k':y<z:=by simpa using k
  rw [if_neg (by omega)];simp;omega
theorem ltB_total: ∀a b:Bs,ltB a b=true\/a=b\/ltB b a=true
 | [], []=> .inr (.inl rfl)
 | [],_::_=> .inl rfl
 |_::_, []=> .inr (.inr rfl)
 |x::xs,y::ys=>by
  simp only [ltB];by_cases h:x=y
  ·subst h;rcases ltB_total xs ys with h1|h1|h1
   ·left;simpa using h1
   ·right;left;rw [h1]
   right;right;simpa using h1
  have h': ¬y=x:=fun e=>h e.symm;rw [if_neg h,if_neg h'];rcases Nat.lt_or_gt_of_ne h with h1|h1
  ·left;simpa using h1
  right;right;simpa using h1
theorem ltB_le_trans {a b c:Bs} (h:ltB a b=true) (k:ltB c b=false):ltB a c=true:=by
 rcases ltB_total b c with h1|h1|h1
 ·exact ltB_trans h h1
 ·subst h1;exact h
 rw [h1] at k;cases k
theorem le_ltB_trans {a b c:Bs} (h:ltB b a=false) (k:ltB b c=true):ltB a c=true:=by
 rcases ltB_total a b with h1|h1|h1
 ·exact ltB_trans h1 k
 ·subst h1;exact k
 rw [h1] at h;cases h
theorem ltB_asymm {a b:Bs} (h:ltB a b=true):ltB b a=false:=by
 cases hb:ltB b a with
 |false=>rfl
 |true=>have:=ltB_trans h hb;rw [ltB_irrefl] at this;cases this
def below (k:Bs):Option Bs->Prop
 |none=>True
 |some h=>ltB k h=true
def InR (lo:Bs) (hi:Option Bs) (k:Bs):Prop:=ltB k lo=false/\below k hi
abbrev CP:=Int->Bs->Option Bs->Int->Int->List Int->Ens->Prop
def Chs (C:CP):Ens->Bs->Option Bs->Int->Int->List Int->Ens->Prop
 | [],_,_,_,_,_,_=>False
 | [e],lo,hi,fl,nx,ids,kv=>e.2.length=2/\C (numberP e.2) lo hi fl nx ids kv
 |e::e2::r,lo,hi,fl,nx,ids,kv=>e.2.length=2/\ltB lo e2.1=true/\below e2.1 hi/\ ∃md ids1 ids2 kv1 kv2,ids=ids1++ids2/\kv=kv1++kv2/\C (numberP e.2) lo (some e2.1) fl md ids1 kv1/\Chs C (e2::r) e2.1 hi md nx ids2 kv2
theorem Chs.mono {C C':CP}: ∀(es:Ens) {lo:Bs} {hi:Option Bs} {fl nx:Int} {ids:List Int} {kv:Ens},(∀id lo hi fl nx js kv,(∀j∈js,j∈ids)->C id lo hi fl nx js kv->C' id lo hi fl nx js kv)->Chs C es lo hi fl nx ids kv->Chs C' es lo hi fl nx ids kv
 | [],_,_,_,_,_,_,_,h=>h.elim
 | [e],_,_,_,_,_,_,hc,h=>⟨h.1,hc _ _ _ _ _ _ _ (fun _ hj=>hj) h.2⟩
 |e::e2::r,_,_,_,_,_,_,hc,h=>by
  obtain ⟨h0,h1,h2,md,ids1,ids2,kv1,kv2,rfl,rfl,h3,h4⟩:=h;exact ⟨h0,h1,h2,md,ids1,ids2,kv1,kv2,rfl,rfl,hc _ _ _ _ _ _ _ (fun _ hj=>by simp [hj]) h3,Chs.mono (e2::r) (fun _ _ _ _ _ _ _ hj=>hc _ _ _ _ _ _ _ (fun j hjm=>by simp [hj j hjm])) h4⟩
theorem Chs.head {C:CP}: ∀{es:Ens} {e e':Bs×Bs} {lo hi fl nx ids kv},e'.2=e.2->Chs C (e::es) lo hi fl nx ids kv->Chs C (e'::es) lo hi fl nx ids kv
 | [],e,e',_,_,_,_,_,_,he,h=>by simpa only [Chs,he] using h
 |e2::r,e,e',_,_,_,_,_,_,he,h=>by simpa only [Chs,he] using h
theorem Chs.append {C:CP} {e2:Bs×Bs} {r:Ens} {hi:Option Bs} {md nx:Int} {ids2:List Int} {kv2:Ens} (h2:Chs C (e2::r) e2.1 hi md nx ids2 kv2) (hb:below e2.1 hi): ∀(es:Ens) {lo:Bs} {fl:Int} {ids1:List Int} {kv1:Ens},Chs C es lo (some e2.1) fl md ids1 kv1->(ltB lo e2.1=true)->Chs C (es++e2::r) lo hi fl nx (ids1++ids2) (kv1++kv2)
 | [],_,_,_,_,h,_=>h.elim
 | [e],lo,fl,ids1,kv1,h,hl=>⟨h.1,hl,hb,md,ids1,ids2,kv1,kv2,rfl,rfl,h.2,h2⟩
 |e::e3::s,lo,fl,ids1,kv1,h,hl=>by
  obtain ⟨h0,h1,h3,md',i1,i2,k1,k2,rfl,rfl,h4,h5⟩:=h;have hb3:below e3.1 hi:=by
   cases hi with
   |none=>trivial
   |some hh=>exact ltB_trans h3 hb
  refine ⟨h0,h1,hb3,md',i1,i2++ids2,k1,k2++kv2,by rw [List.append_assoc],by rw [List.append_assoc],h4, ?_⟩;exact Chs.append h2 hb (e3::s) h5 h3
def cnt (key:Bs):Ens->Nat
 | []=>0
 |e::r=>if ltB key e.1=true then 0 else cnt key r+1
theorem Chs.focus {C:CP}: ∀(es:Ens) (e:Bs×Bs) {lo:Bs} {hi:Option Bs} {fl nx:Int} {ids:List Int} {kv:Ens} {key:Bs},Chs C (e::es) lo hi fl nx ids kv->InR lo hi key->
  ∃pre c post lo' hi' fl' nx' idsL ids' idsR kvL kv' kvR,e::es=pre++c::post/\pre.length=cnt key es/\InR lo' hi' key/\c.2.length=2/\C (numberP c.2) lo' hi' fl' nx' ids' kv'/\ids=idsL++ids'++idsR/\kv=kvL++kv'++kvR/\
   (ltB lo' lo=false)/\(∀h,hi=some h-> ∃h',hi'=some h'/\ltB h h'=false)/\
   ∀(C':CP) mid ids'' kv'',(∀id lo hi fl nx js kv,(∀j∈js,j∈idsL\/j∈idsR)->C id lo hi fl nx js kv->C' id lo hi fl nx js kv)->Chs C' (c::mid) lo' hi' fl' nx' ids'' kv''->Chs C' (pre++c::mid++post) lo hi fl nx (idsL++ids''++idsR) (kvL++kv''++kvR)
 | [],e,lo,hi,fl,nx,ids,kv,key,h,hk=>by
  refine ⟨[],e, [],lo,hi,fl,nx, [],ids, [], [],kv, [],rfl,rfl,hk,h.1,h.2,by simp,by simp,ltB_irrefl _,fun h hh=>⟨h,hh,ltB_irrefl _⟩, ?_⟩;intro C' mid ids'' kv'' _ hm;simpa using hm
 |e2::r,e,lo,hi,fl,nx,ids,kv,key,h,hk=>by
  obtain ⟨h0,h1,h2,md,ids1,ids2,kv1,kv2,rfl,rfl,h3,h4⟩:=h;by_cases hlt:ltB key e2.1=true
  ·refine ⟨[],e,e2::r,lo,some e2.1,fl,md, [],ids1,ids2, [],kv1,kv2,rfl,by simp [cnt,hlt],⟨hk.1,hlt⟩,h0,h3,by simp,by simp,ltB_irrefl _, ?_, ?_⟩
   ·intro h hh;subst hh;exact ⟨_,rfl,ltB_asymm h2⟩
   intro C' mid ids'' kv'' hc hm;have h5:=Chs.mono (C':=C') (e2::r) (fun id lo hi fl nx js kv hj=>hc id lo hi fl nx js kv (fun j hjm=> .inr (hj j hjm))) h4;have:=Chs.append h5 h2 (e::mid) hm h1;simpa using this
  have hge:ltB key e2.1=false:=by simpa using hlt
  obtain ⟨pre,c,post,lo',hi',fl',nx',idsL,ids',idsR,kvL,kv',kvR,g1,g2,g3,g4,g5,g6,g7,g8,g9,g10⟩:=Chs.focus r e2 h4 ⟨hge,hk.2⟩;refine ⟨e::pre,c,post,lo',hi',fl',nx',ids1++idsL,ids',idsR,kv1++kvL,kv',kvR,by rw [g1];rfl,by simp [cnt,hlt,g2],g3,g4,g5,by rw [g6];simp,by rw [g7];simp, ?_,g9, ?_⟩
  ·cases hq:ltB lo' lo with
   |false=>rfl
   |true=>have:=ltB_trans hq h1;rw [this] at g8;cases g8
  intro C' mid ids'' kv'' hc hm;have h5:=g10 C' mid ids'' kv'' (fun id lo hi fl nx js kv hj=>hc id lo hi fl nx js kv (fun j hjm=>by rcases hj j hjm with h|h;exact .inl (by simp [h]);exact .inr h)) hm;have h6:C' (numberP e.2) lo (some e2.1) fl md ids1 kv1:=hc _ _ _ _ _ _ _ (fun j hj=> .inl (by simp [hj])) h3;cases pre with
  |nil=>
   simp only [List.nil_append,List.cons.injEq] at g1;obtain ⟨rfl,rfl⟩:=g1;simp only [List.nil_append,List.cons_append] at h5 ⊢;exact ⟨h0,h1,h2,md,ids1,idsL++ids''++idsR,kv1,kvL++kv''++kvR,by simp,by simp,h6,h5⟩
  |cons p ps=>
   simp only [List.cons_append,List.cons.injEq] at g1;obtain ⟨rfl,g1'⟩:=g1;simp only [List.cons_append] at h5 ⊢;exact ⟨h0,h1,h2,md,ids1,idsL++ids''++idsR,kv1,kvL++kv''++kvR,by simp,by simp,h6,h5⟩
def Sorted (kv:Ens):Prop:=kv.Pairwise fun a b=>ltB a.1 b.1=true
def SubT (V:Vw):Nat->CP
 |0=>fun id lo hi fl nx ids kv=>fl=id/\ids= [id]/\ ∃x,V id=some x/\x.level=0/\x.next=nx/\x.ents=kv/\kv.length<=8/\Sorted kv/\ ∀e∈kv,e.1≠ []/\InR lo hi e.1
 |n+1=>fun id lo hi fl nx ids kv=> ∃js,ids=id::js/\ ∃x,V id=some x/\x.level=((n+1:Nat):Int)/\x.next= -1/\x.ents.length<=8/\(∃v r,x.ents=([],v)::r)/\Chs (SubT V n) x.ents lo hi fl nx js kv
theorem SubT.page {V:Vw} {n:Nat} {id lo hi fl nx ids kv} (h:SubT V n id lo hi fl nx ids kv): ∃x js,V id=some x/\x.level=(n:Int)/\x.ents.length<=8/\ids=id::js:=by
 cases n with
 |zero=>obtain ⟨_,h2,x,h3,h4,h5,h6,h7,_⟩:=h;exact ⟨x, [],h3,h4,by rw [h6];exact h7,h2⟩
 |succ n=>obtain ⟨js,h1,x,h2,h3,h4,h5,_⟩:=h;exact ⟨x,js,h2,h3,h5,h1⟩
theorem SubT.frame {V V':Vw}: ∀(n:Nat) {id lo hi fl nx ids kv},(∀j∈ids,V' j=V j)->SubT V n id lo hi fl nx ids kv->SubT V' n id lo hi fl nx ids kv
 |0,id,lo,hi,fl,nx,ids,kv,hf,h=>by
  obtain ⟨h1,h2,x,h3,h4⟩:=h;exact ⟨h1,h2,x,by rw [hf id (by rw [h2];simp)];exact h3,h4⟩
 |n+1,id,lo,hi,fl,nx,ids,kv,hf,h=>by
  obtain ⟨js,h1,x,h2,h3,h4,h5,h6,h7⟩:=h;refine ⟨js,h1,x,by rw [hf id (by rw [h1];simp)];exact h2,h3,h4,h5,h6, ?_⟩;exact Chs.mono _ (fun id lo hi fl nx is kv hj hs=>SubT.frame n (fun j hjm=>hf j (by rw [h1];simp [hj j hjm])) hs) h7
def KvOk (lo:Bs) (hi:Option Bs) (kv:Ens):Prop:=Sorted kv/\ ∀e∈kv,e.1≠ []/\InR lo hi e.1
theorem KvOk.append {lo m:Bs} {hi:Option Bs} {kv1 kv2:Ens} (h1:KvOk lo (some m) kv1) (h2:KvOk m hi kv2) (hl:ltB lo m=true) (hb:below m hi):KvOk lo hi (kv1++kv2):=by
 refine ⟨List.pairwise_append.2 ⟨h1.1,h2.1,fun a ha b hb=> ?_⟩,fun e he=> ?_⟩
 ·exact ltB_le_trans (h1.2 a ha).2.2 (h2.2 b hb).2.1
 rcases List.mem_append.1 he with he|he
 ·have:=h1.2 e he;refine ⟨this.1,this.2.1, ?_⟩;cases hi with
  |none=>trivial
  |some h0=>exact ltB_trans this.2.2 hb
 have:=h2.2 e he;refine ⟨this.1, ?_,this.2.2⟩;cases hq:ltB e.1 lo with
 |false=>rfl
 |true=>have h3:=ltB_trans hq hl;rw [this.2.1] at h3;cases h3
theorem Chs.kv {C:CP} (hC: ∀id lo hi fl nx js kv,C id lo hi fl nx js kv->KvOk lo hi kv): ∀(es:Ens) {lo hi fl nx ids kv},Chs C es lo hi fl nx ids kv->KvOk lo hi kv
 | [],_,_,_,_,_,_,h=>h.elim
 | [e],_,_,_,_,_,_,h=>hC _ _ _ _ _ _ _ h.2
 |e::e2::r,_,_,_,_,_,_,h=>by
  obtain ⟨h0,h1,h2,md,i1,i2,k1,k2,rfl,rfl,h3,h4⟩:=h;exact KvOk.append (hC _ _ _ _ _ _ _ h3) (Chs.kv hC (e2::r) h4) h1 h2
theorem SubT.kv {V:Vw}: ∀(n:Nat) {id lo hi fl nx ids kv},SubT V n id lo hi fl nx ids kv->KvOk lo hi kv
 |0,_,_,_,_,_,_,_,h=>by obtain ⟨_,_,x,_,_,_,_,_,h1,h2⟩:=h;exact ⟨h1,h2⟩
 |n+1,_,_,_,_,_,_,_,h=>by
  obtain ⟨js,_,x,_,_,_,_,_,h7⟩:=h;exact Chs.kv (fun _ _ _ _ _ _ _ hs=>SubT.kv n hs) _ h7
theorem Chs.fl_mem {C:CP} (hC: ∀id lo hi fl nx js kv,C id lo hi fl nx js kv->fl∈js): ∀(es:Ens) {lo hi fl nx ids kv},Chs C es lo hi fl nx ids kv->fl∈ids
 | [],_,_,_,_,_,_,h=>h.elim
 | [e],_,_,_,_,_,_,h=>hC _ _ _ _ _ _ _ h.2
 |e::e2::r,_,_,_,_,_,_,h=>by
  obtain ⟨h0,h1,h2,md,i1,i2,k1,k2,rfl,rfl,h3,h4⟩:=h;exact List.mem_append_left _ (hC _ _ _ _ _ _ _ h3)
theorem SubT.fl_mem {V:Vw}: ∀(n:Nat) {id lo hi fl nx ids kv},SubT V n id lo hi fl nx ids kv->fl∈ids
 |0,_,_,_,_,_,_,_,h=>by obtain ⟨h1,h2,_⟩:=h;subst h1;subst h2;simp
 |n+1,_,_,_,_,_,_,_,h=>by
  obtain ⟨js,rfl,x,_,_,_,_,_,h7⟩:=h;exact List.mem_cons_of_mem _ (Chs.fl_mem (fun _ _ _ _ _ _ _ hs=>SubT.fl_mem n hs) _ h7)
theorem Chs.part {C:CP} {e2:Bs×Bs} {r:Ens}: ∀(es:Ens) {lo hi fl nx ids kv},es≠ []->Chs C (es++e2::r) lo hi fl nx ids kv->
  ∃md ids1 ids2 kv1 kv2,ids=ids1++ids2/\kv=kv1++kv2/\ltB lo e2.1=true/\below e2.1 hi/\Chs C es lo (some e2.1) fl md ids1 kv1/\Chs C (e2::r) e2.1 hi md nx ids2 kv2
 | [],_,_,_,_,_,_,hn,_=>absurd rfl hn
 | [e],_,_,_,_,_,_,_,h=>by
  obtain ⟨h0,h1,h2,md,i1,i2,k1,k2,rfl,rfl,h3,h4⟩:=h;exact ⟨md,i1,i2,k1,k2,rfl,rfl,h1,h2,⟨h0,h3⟩,h4⟩
 |e::e3::s,_,_,_,_,_,_,_,h=>by
  obtain ⟨h0,h1,h2,md,i1,i2,k1,k2,rfl,rfl,h3,h4⟩:=h;obtain ⟨md',j1,j2,l1,l2,rfl,rfl,h5,h6,h7,h8⟩:=Chs.part (e3::s) (by simp) h4;exact ⟨md',i1++j1,j2,k1++l1,l2,by rw [List.append_assoc],by rw [List.append_assoc],ltB_trans h1 h5,h6,⟨h0,h1,h5,md,i1,j1,k1,l1,rfl,rfl,h3,h7⟩,h8⟩
theorem numberP_twoB {u:Int} (h0:0<=u) (h1:u<65536):numberP (twoB u)=u:=by have e1:u.fdiv 256=u / 256:=Int.fdiv_eq_ediv_of_nonneg _ (by omega);simp only [numberP,twoB,e1];simp;omega
theorem getD_get {l:Ens} {k:Nat} (h:k<l.length):l.getD k ([], [])=l[k]:=by simp [List.getD,h]
def MetaV (V:Vw) (u:Int):Prop:= ∃x,V 1=some x/\x.ents= [([110],twoB u++twoB 0)]
def halfL (u:Int) (x:Pg):Pg:={x with ents:=x.ents.take 4,next:=if x.level=0 then u else x.next}
def halfR (u:Int) (x:Pg):Pg:=⟨u,0,x.level,if x.level=0 then x.next else -1,clrK x.level (x.ents.drop 4)⟩
theorem clrK_cons {level:Int} (e:Bs×Bs) (r:Ens) (h:0<level):clrK level (e::r)=([],e.2)::r:=by simp [clrK,h]
theorem clrK_zero (l:Ens):clrK 0 l=l:=by cases l<;>simp [clrK]
theorem SubT.split {V W:Vw} {u:Int} {x:Pg}: ∀(n:Nat) {id lo hi fl nx ids kv},SubT V n id lo hi fl nx ids kv->V id=some x->x.ents.length=8->x.id=id->u ∉ ids->ids.Nodup->
  (∀j∈ids,j≠id->W j=V j)->W id=some (halfL u x)->W u=some (halfR u x)->
  ∃md i1 i2 k1 k2,kv=k1++k2/\(i1++i2).Perm (u::ids)/\ltB lo (x.ents.getD 4 ([], [])).1=true/\below (x.ents.getD 4 ([], [])).1 hi/\
   SubT W n id lo (some (x.ents.getD 4 ([], [])).1) fl md i1 k1/\SubT W n u (x.ents.getD 4 ([], [])).1 hi md nx i2 k2
 |0,id,lo,hi,fl,nx,ids,kv,h,hx,hl,hid,hu,hnd,hf,hL,hR=>by
  obtain ⟨rfl,rfl,y,hy,h1,h2,h3,h4,h5,h6⟩:=h;rw [hx] at hy;injection hy with hy;subst hy
  subst h3;have hsp:x.ents=x.ents.take 4++(x.ents.getD 4 ([], []))::x.ents.drop 5:=by
   have:x.ents.drop 4=(x.ents.getD 4 ([], []))::x.ents.drop 5:=by rw [getD_get (show 4<x.ents.length by omega)];exact List.drop_eq_getElem_cons (by omega)
   rw [<-this,List.take_append_drop]
  have hd4:x.ents.drop 4=(x.ents.getD 4 ([], []))::x.ents.drop 5:=by rw [getD_get (show 4<x.ents.length by omega)];exact List.drop_eq_getElem_cons (by omega)
  have hmem: ∀e∈x.ents.take 4,ltB e.1 (x.ents.getD 4 ([], [])).1=true:=by have h7:=h5;rw [Sorted,hsp,List.pairwise_append] at h7;exact fun e he=>h7.2.2 e he _ (by simp)
  have hs4:(x.ents.getD 4 ([], []))∈x.ents:=by rw [getD_get (show 4<x.ents.length by omega)];exact List.getElem_mem _
  have hge: ∀e∈x.ents.drop 4,ltB e.1 (x.ents.getD 4 ([], [])).1=false:=by
   rw [hd4];intro e he;rcases List.mem_cons.1 he with rfl|he
   ·exact ltB_irrefl _
   have h7:=h5;rw [Sorted,hsp,List.pairwise_append] at h7;exact ltB_asymm ((List.pairwise_cons.1 h7.2.1).1 e he)
  have h0m:x.ents[0]'(by omega)∈x.ents.take 4:=by rw [List.mem_take_iff_getElem];exact ⟨0,by omega,rfl⟩
  have hlo:ltB lo (x.ents.getD 4 ([], [])).1=true:=le_ltB_trans (h6 _ (List.mem_of_mem_take h0m)).2.1 (hmem _ h0m);refine ⟨u, [fl], [u],x.ents.take 4,x.ents.drop 4,(List.take_append_drop 4 _).symm,List.Perm.swap _ _ _,hlo,(h6 _ hs4).2.2, ?_, ?_⟩
  ·refine ⟨rfl,rfl,_,hL,h1,by rw [halfL,if_pos h1],rfl,by simp;omega,List.Pairwise.sublist (List.take_sublist _ _) h5,fun e he=> ?_⟩;exact ⟨(h6 e (List.mem_of_mem_take he)).1,(h6 e (List.mem_of_mem_take he)).2.1,hmem e he⟩
  refine ⟨rfl,rfl,_,hR,h1,by simp only [halfR];rw [if_pos h1];exact h2,by simp only [halfR];rw [h1,clrK_zero],by simp;omega,List.Pairwise.sublist (List.drop_sublist _ _) h5,fun e he=> ?_⟩;exact ⟨(h6 e (List.mem_of_mem_drop he)).1,hge e he,(h6 e (List.mem_of_mem_drop he)).2.2⟩
 |n+1,id,lo,hi,fl,nx,ids,kv,h,hx,hl,hid,hu,hnd,hf,hL,hR=>by
  obtain ⟨js,rfl,y,hy,h1,h2,h3,⟨v,r,h4⟩,h5⟩:=h;rw [hx] at hy;injection hy with hy;subst hy
  have hd4:x.ents.drop 4=(x.ents.getD 4 ([], []))::x.ents.drop 5:=by rw [getD_get (show 4<x.ents.length by omega)];exact List.drop_eq_getElem_cons (by omega)
  have hsp:x.ents=x.ents.take 4++(x.ents.getD 4 ([], []))::x.ents.drop 5:=by rw [<-hd4,List.take_append_drop]
  have hv0:x.level≠0:=by omega
  have h6:Chs (SubT W n) x.ents lo hi fl nx js kv:=Chs.mono _ (fun id' lo hi fl nx is kv hj hs=>SubT.frame n (fun j hjm=>hf j (by simp [hj j hjm]) (fun e=>by subst e;exact (List.nodup_cons.1 hnd).1 (hj j hjm))) hs) h5;have hsp':=hsp;generalize hs:x.ents.getD 4 ([], [])=s at hsp' hd4 ⊢;rw [hsp'] at h6;have hne:x.ents.take 4≠ []:=by intro e;have e2:=congrArg List.length e;rw [List.length_take,hl] at e2;exact absurd e2 (by decide)
  obtain ⟨md,i1,i2,k1,k2,rfl,rfl,g1,g2,g3,g4⟩:=Chs.part _ hne h6;refine ⟨md,id::i1,u::i2,k1,k2,rfl, ?_,g1,g2, ?_, ?_⟩
  ·have:(id::i1++u::i2).Perm (u::(id::i1++i2)):=List.perm_middle;simpa using this
  ·refine ⟨i1,rfl,_,hL,h1,by rw [halfL,if_neg hv0];exact h2,Nat.le_trans (List.length_take_le 4 x.ents) (by decide),⟨v,r.take 3,by simp only [halfL];rw [h4];rfl⟩,g3⟩
  refine ⟨i2,rfl,_,hR,h1,by simp only [halfR];rw [if_neg hv0],by simp only [halfR];rw [clrK_len];simp;omega,⟨s.2,x.ents.drop 5,by simp only [halfR];rw [hd4,clrK_cons _ _ (by omega)]⟩, ?_⟩;simp only [halfR];rw [hd4,clrK_cons _ _ (by omega)];exact Chs.head (e:=s) (by rfl) g4
def Rise:Bs->Ens->Prop
 |_, []=>True
 |lo,e::r=>ltB lo e.1=true/\Rise e.1 r
theorem Chs.rise {C:CP}: ∀(es:Ens) (e:Bs×Bs) {lo hi fl nx ids kv},Chs C (e::es) lo hi fl nx ids kv->Rise lo es
 | [],_,_,_,_,_,_,_,_=>trivial
 |e2::r,e,_,_,_,_,_,_,h=>by
  obtain ⟨_,h1,_,_,_,_,_,_,_,_,_,h4⟩:=h;exact ⟨h1,Chs.rise r e2 h4⟩
theorem cnt_zero {lo key:Bs}: ∀r:Ens,Rise lo r->ltB lo key=false->cnt key r=0
 | [],_,_=>rfl
 |e::s,h,hk=>by rw [cnt,if_pos (le_ltB_trans hk h.1)]
theorem find_cnt {key:Bs}: ∀(r:Ens) {lo:Bs},Rise lo r->(if (findP r key).2 then (findP r key).1+1 else (findP r key).1)=cnt key r
 | [],_,_=>rfl
 |e::s,lo,h=>by
  have ih:=find_cnt (key:=key) s h.2;rw [findP,cnt];by_cases h1:ltB e.1 key=true
  ·rw [if_pos h1,ltB_asymm h1];simp only [Bool.false_eq_true,if_false];rw [<-ih];split<;>rfl
  have h1':ltB e.1 key=false:=by simpa using h1
  rw [if_neg h1];by_cases h2:e.1=key
  ·subst h2;simp only [decide_true,if_true,ltB_irrefl,Bool.false_eq_true,if_false];rw [cnt_zero s h.2 (ltB_irrefl _)]
  have h3:ltB key e.1=true:=by
   rcases ltB_total e.1 key with q|q|q
   ·exact absurd q h1
   ·exact absurd q h2
   exact q
  rw [if_pos h3];simp [h2]
theorem childP_cnt {x:Pg} {v:Bs} {r:Ens} {lo key:Bs} (h:x.ents=([],v)::r) (hr:Rise lo r):childP x key=cnt key r:=by
 rw [childP,h];cases key with
 |nil=>
  have:cnt [] r=0:=cnt_zero r hr (by cases lo<;>rfl);rw [this];rfl
 |cons k ks=>
  rw [<-find_cnt r hr,findP,if_pos (show ltB ([]:Bs) (k::ks)=true from rfl)];simp only [];split<;>omega
theorem Chs.nxs {C:CP} (hC: ∀id lo hi fl nx js kv,C id lo hi fl nx js kv->fl∈js) {N:Int}: ∀(es:Ens) {lo hi fl nx ids kv},nx<N->(∀j∈ids,j<N)->Chs C es lo hi fl nx ids kv->Chs (fun id lo hi fl nx js kv=>C id lo hi fl nx js kv/\nx<N) es lo hi fl nx ids kv
 | [],_,_,_,_,_,_,_,_,h=>h.elim
 | [e],_,_,_,_,_,_,hn,_,h=>⟨h.1,h.2,hn⟩
 |e::e2::r,_,_,_,_,_,_,hn,hj,h=>by
  obtain ⟨h0,h1,h2,md,i1,i2,k1,k2,rfl,rfl,h3,h4⟩:=h;exact ⟨h0,h1,h2,md,i1,i2,k1,k2,rfl,rfl,⟨h3,hj md (List.mem_append_right _ (Chs.fl_mem hC _ h4))⟩,Chs.nxs hC (e2::r) hn (fun j hm=>hj j (List.mem_append_right _ hm)) h4⟩
theorem cnt_ins {key:Bs} {e':Bs×Bs}: ∀r:Ens,cnt key (r.take (cnt key r)++e'::r.drop (cnt key r))=cnt key r+(if ltB key e'.1=true then 0 else 1)
 | []=>by simp only [cnt,List.take_nil,List.drop_nil,List.nil_append];split<;>rfl
 |e::s=>by
  have ih:=cnt_ins (key:=key) (e':=e') s;by_cases h:ltB key e.1=true
  ·simp only [cnt,if_pos h,List.take_zero,List.drop_zero,List.nil_append];split<;>rfl
  simp only [cnt,if_neg h,List.take_succ_cons,List.drop_succ_cons,List.cons_append];omega
structure Good (b:Bt) (u:Int) (ids:List Int):Prop where
 m:MetaV b.view u
 i:IdsOk b.view
 nd:ids.Nodup
 rg: ∀j∈ids,0<=j/\j<u/\j≠1
 u1:1<u
def Occ1 (V:Vw) (id:Int) (ids:List Int):Prop:= ∀j∈ids,j≠id-> ∀x,V j=some x->4<=x.ents.length
def Wand (V:Vw) (n:Nat) (id:Int) (lo:Bs) (hi:Option Bs) (fl nx:Int) (ids:List Int) (kv:Ens) (key:Bs) (y:Pg):Prop:=
 V y.id=some y/\y.level=0/\y.id∈ids/\ ∃kvL kvR lo' hi',kv=kvL++y.ents++kvR/\InR lo' hi' key/\KvOk lo' hi' y.ents/\ltB lo' lo=false/\(∀h,hi=some h-> ∃h',hi'=some h'/\ltB h h'=false)/\
  ∀(V'':Vw) ents',(∀j∈ids,j≠y.id->V'' j=V j)->V'' y.id=some {y with ents:=ents'}->ents'.length<=8->KvOk lo' hi' ents'->SubT V'' n id lo hi fl nx ids (kvL++ents'++kvR)
theorem SubT.next_lt {V:Vw}: ∀(n:Nat) {id lo hi fl nx ids kv x},SubT V n id lo hi fl nx ids kv->nx<256->V id=some x->x.next<256
 |0,_,_,_,_,_,_,_,x,h,hn,hx=>by
  obtain ⟨_,_,y,hy,_,h2,_⟩:=h;rw [hx] at hy;injection hy with hy;subst hy;omega
 |n+1,_,_,_,_,_,_,_,x,h,hn,hx=>by
  obtain ⟨_,_,y,hy,_,h2,_⟩:=h;rw [hx] at hy;injection hy with hy;subst hy;omega
theorem insertIdx_mid {α:Type} (c e:α) (post:List α): ∀pre:List α,(pre++c::post).insertIdx (pre.length+1) e=pre++c::e::post
 | []=>rfl
 |p::ps=>by simp only [List.cons_append,List.length_cons,List.insertIdx_succ_cons];rw [insertIdx_mid c e post ps]
theorem insertIdx_take {α:Type} (e:α): ∀(r:List α) (k:Nat),k<=r.length->r.insertIdx k e=r.take k++e::r.drop k
 |r,0,_=>rfl
 | [],k+1,h=>by simp at h
 |x::r,k+1,h=>by simp only [List.insertIdx_succ_cons,List.take_succ_cons,List.drop_succ_cons,List.cons_append];rw [insertIdx_take e r k (by simpa using h)]
theorem cnt_le (key:Bs): ∀r:Ens,cnt key r<=r.length
 | []=>Nat.le_refl _
 |e::r=>by rw [cnt];split;omega;have:=cnt_le key r;simp only [List.length_cons];omega
structure Tr (b:Bt) (n:Nat) (u:Int) (fl:Int) (ids:List Int) (kv:Ens):Prop where
 g:Good b u ids
 s:SubT b.view n 0 [] none fl (-1) ids kv
 o:Occ1 b.view 0 ids
 c:u=ids.length+1
 r: ∀x,b.view 0=some x->0<n->2<=x.ents.length
theorem SubT.split2 {V W:Vw} {l r:Int} {x pL pR:Pg}: ∀(n:Nat) {id lo hi fl nx ids kv},SubT V n id lo hi fl nx ids kv->V id=some x->x.ents.length=8->ids.Nodup->
  (∀j∈ids,j≠id->W j=V j)->W l=some pL->W r=some pR->pL.level=x.level->pR.level=x.level->pL.next=(if x.level=0 then r else -1)->pR.next=(if x.level=0 then x.next else -1)->
  pL.ents=clrK x.level (x.ents.take 4)->pR.ents=clrK x.level (x.ents.drop 4)->
  ∃js fl' md i1 i2 k1 k2,ids=id::js/\kv=k1++k2/\(i1++i2).Perm (l::r::js)/\ltB lo (x.ents.getD 4 ([], [])).1=true/\below (x.ents.getD 4 ([], [])).1 hi/\
   SubT W n l lo (some (x.ents.getD 4 ([], [])).1) fl' md i1 k1/\SubT W n r (x.ents.getD 4 ([], [])).1 hi md nx i2 k2
 |0,id,lo,hi,fl,nx,ids,kv,h,hx,hl,hnd,hf,hL,hR,a1,a2,a3,a4,a5,a6=>by
  obtain ⟨rfl,rfl,y,hy,h1,h2,h3,h4,h5,h6⟩:=h;rw [hx] at hy;injection hy with hy;subst hy
  subst h3;rw [h1,clrK_zero] at a5 a6;rw [if_pos h1] at a3 a4;have hd4:x.ents.drop 4=(x.ents.getD 4 ([], []))::x.ents.drop 5:=by rw [getD_get (show 4<x.ents.length by omega)];exact List.drop_eq_getElem_cons (by omega)
  have hsp:x.ents=x.ents.take 4++(x.ents.getD 4 ([], []))::x.ents.drop 5:=by rw [<-hd4,List.take_append_drop]
  have hmem: ∀e∈x.ents.take 4,ltB e.1 (x.ents.getD 4 ([], [])).1=true:=by have h7:=h5;rw [Sorted,hsp,List.pairwise_append] at h7;exact fun e he=>h7.2.2 e he _ (by simp)
  have hs4:(x.ents.getD 4 ([], []))∈x.ents:=by rw [getD_get (show 4<x.ents.length by omega)];exact List.getElem_mem _
  have hge: ∀e∈x.ents.drop 4,ltB e.1 (x.ents.getD 4 ([], [])).1=false:=by
   rw [hd4];intro e he;rcases List.mem_cons.1 he with rfl|he
   ·exact ltB_irrefl _
   have h7:=h5;rw [Sorted,hsp,List.pairwise_append] at h7;exact ltB_asymm ((List.pairwise_cons.1 h7.2.1).1 e he)
  have h0m:x.ents[0]'(by omega)∈x.ents.take 4:=by rw [List.mem_take_iff_getElem];exact ⟨0,by omega,rfl⟩
  have hlo:ltB lo (x.ents.getD 4 ([], [])).1=true:=le_ltB_trans (h6 _ (List.mem_of_mem_take h0m)).2.1 (hmem _ h0m);refine ⟨[],l,r, [l], [r],x.ents.take 4,x.ents.drop 4,rfl,(List.take_append_drop 4 _).symm,List.Perm.refl _,hlo,(h6 _ hs4).2.2, ?_, ?_⟩
  ·refine ⟨rfl,rfl,_,hL,by rw [a1];exact h1,a3,a5,by rw [List.length_take];omega,List.Pairwise.sublist (List.take_sublist _ _) h5,fun e he=> ?_⟩;exact ⟨(h6 e (List.mem_of_mem_take he)).1,(h6 e (List.mem_of_mem_take he)).2.1,hmem e he⟩
  refine ⟨rfl,rfl,_,hR,by rw [a2];exact h1,by rw [a4];exact h2,a6,by rw [List.length_drop];omega,List.Pairwise.sublist (List.drop_sublist _ _) h5,fun e he=> ?_⟩;exact ⟨(h6 e (List.mem_of_mem_drop he)).1,hge e he,(h6 e (List.mem_of_mem_drop he)).2.2⟩
 |n+1,id,lo,hi,fl,nx,ids,kv,h,hx,hl,hnd,hf,hL,hR,a1,a2,a3,a4,a5,a6=>by
  obtain ⟨js,rfl,y,hy,h1,h2,h3,⟨v,t,h4⟩,h5⟩:=h;rw [hx] at hy;injection hy with hy;subst hy
  have hd4:x.ents.drop 4=(x.ents.getD 4 ([], []))::x.ents.drop 5:=by rw [getD_get (show 4<x.ents.length by omega)];exact List.drop_eq_getElem_cons (by omega)
  have hsp:x.ents=x.ents.take 4++(x.ents.getD 4 ([], []))::x.ents.drop 5:=by rw [<-hd4,List.take_append_drop]
  have hv0:x.level≠0:=by omega
  rw [if_neg hv0] at a3 a4;have h6:Chs (SubT W n) x.ents lo hi fl nx js kv:=Chs.mono _ (fun id' lo hi fl nx is kv hj hs=>SubT.frame n (fun j hjm=>hf j (by simp [hj j hjm]) (fun e=>by subst e;exact (List.nodup_cons.1 hnd).1 (hj j hjm))) hs) h5;have hsp':=hsp;generalize hs:x.ents.getD 4 ([], [])=s at hsp' hd4 ⊢;rw [hsp'] at h6;have hne:x.ents.take 4≠ []:=by intro e;have e2:=congrArg List.length e;rw [List.length_take,hl] at e2;exact absurd e2 (by decide)
  obtain ⟨md,i1,i2,k1,k2,rfl,rfl,g1,g2,g3,g4⟩:=Chs.part _ hne h6;have ht4:clrK x.level (x.ents.take 4)=x.ents.take 4:=by rw [h4,List.take_succ_cons,clrK_cons _ _ (by omega)]
  refine ⟨_,fl,md,l::i1,r::i2,k1,k2,rfl,rfl, ?_,g1,g2, ?_, ?_⟩
  ·have:(l::i1++r::i2).Perm (r::(l::i1++i2)):=List.perm_middle;exact this.trans (List.Perm.swap _ _ _)
  ·refine ⟨i1,rfl,_,hL,by rw [a1];exact h1,a3,by rw [a5,clrK_len];exact Nat.le_trans (List.length_take_le 4 x.ents) (by decide),⟨v,t.take 3,by rw [a5,ht4,h4];rfl⟩,by rw [a5,ht4];exact g3⟩
  refine ⟨i2,rfl,_,hR,by rw [a2];exact h1,a4,by rw [a6,clrK_len,List.length_drop];omega,⟨s.2,x.ents.drop 5,by rw [a6,hd4,clrK_cons _ _ (by omega)]⟩, ?_⟩;rw [a6,hd4,clrK_cons _ _ (by omega)];exact Chs.head (e:=s) (by rfl) g4
def insKv:Ens->Bs->Bs->Ens
 | [],k,v=> [(k,v)]
 |e::r,k,v=>if ltB e.1 k then e::insKv r k v else if e.1=k then (e.1,v)::r else (k,v)::e::r
theorem insKv_mem {k v:Bs}: ∀(l:Ens) {e:Bs×Bs},e∈insKv l k v->e=(k,v)\/e∈l
 | [],e,h=>by simpa [insKv] using h
 |a::r,e,h=>by
  rw [insKv] at h;split at h
  ·rcases List.mem_cons.1 h with h|h
   ·exact .inr (by simp [h])
   rcases insKv_mem r h with h|h
   ·exact .inl h
   exact .inr (by simp [h])
  split at h
  ·rename_i hk;rcases List.mem_cons.1 h with h|h
   ·subst hk;exact .inl h
   exact .inr (by simp [h])
  rcases List.mem_cons.1 h with h|h
  ·exact .inl h
  exact .inr h
theorem insKv_sorted {k v:Bs}: ∀(l:Ens),Sorted l->Sorted (insKv l k v)
 | [],_=>by simp [insKv,Sorted]
 |a::r,h=>by
  have h':=List.pairwise_cons.1 h;rw [insKv];split
  ·rename_i hk;refine List.pairwise_cons.2 ⟨fun e he=> ?_,insKv_sorted r h'.2⟩;rcases insKv_mem r he with q|q
   ·subst q;exact hk
   exact h'.1 e q
  split
  ·exact List.pairwise_cons.2 ⟨h'.1,h'.2⟩
  rename_i h1 h2;have h3:ltB k a.1=true:=by
   rcases ltB_total a.1 k with q|q|q
   ·exact absurd q h1
   ·exact absurd q h2
   exact q
  refine List.pairwise_cons.2 ⟨fun e he=> ?_,h⟩;rcases List.mem_cons.1 he with q|q
  ·subst q;exact h3
  exact ltB_trans h3 (h'.1 e q)
theorem insKv_ok {lo:Bs} {hi:Option Bs} {k v:Bs} {l:Ens} (h:KvOk lo hi l) (hk:InR lo hi k) (h0:k≠ []):KvOk lo hi (insKv l k v):=by
 refine ⟨insKv_sorted l h.1,fun e he=> ?_⟩;rcases insKv_mem l he with q|q
 ·subst q;exact ⟨h0,hk⟩
 exact h.2 e q
theorem findP_mem {k:Bs}: ∀l:Ens,(findP l k).2=true-> ∃e∈l,e.1=k
 | [],h=>by simp [findP] at h
 |e::r,h=>by
  rw [findP] at h;split at h
  ·obtain ⟨a,ha,hk⟩:=findP_mem r h;exact ⟨a,by simp [ha],hk⟩
  exact ⟨e,by simp,by simpa using h⟩
theorem findP_of_mem {k:Bs}: ∀l:Ens,Sorted l->(∃e∈l,e.1=k)->(findP l k).2=true
 | [],_,h=>by obtain ⟨e,he,_⟩:=h;simp at he
 |a::r,hs,h=>by
  have hs':=List.pairwise_cons.1 hs;obtain ⟨e,he,hk⟩:=h;rw [findP];split
  ·rename_i h1;rcases List.mem_cons.1 he with q|q
   ·subst q;rw [hk,ltB_irrefl] at h1;cases h1
   exact findP_of_mem r hs'.2 ⟨e,q,hk⟩
  rename_i h1;rcases List.mem_cons.1 he with q|q
  ·subst q;simpa using hk
  have:=hs'.1 e q;rw [hk] at this;exact absurd this h1
theorem insKv_found {k v:Bs}: ∀l:Ens,(findP l k).2=true->l.modify (findP l k).1 (fun e=>(e.1,v))=insKv l k v
 | [],h=>by simp [findP] at h
 |e::r,h=>by
  rw [findP] at h ⊢;rw [insKv];split at h
  ·rename_i h1;rw [if_pos h1,if_pos h1,<-insKv_found r h];rfl
  rename_i h1;rw [if_neg h1,if_neg h1,if_pos (by simpa using h)];rfl
theorem insKv_new {k v:Bs}: ∀l:Ens,(findP l k).2=false->l.insertIdx (findP l k).1 (k,v)=insKv l k v
 | [],h=>rfl
 |e::r,h=>by
  rw [findP] at h ⊢;rw [insKv];split at h
  ·rename_i h1;rw [if_pos h1,if_pos h1,<-insKv_new r h];rfl
  rename_i h1;rw [if_neg h1,if_neg h1,if_neg (by simpa using h)];rfl
theorem insKv_right {k v:Bs} {R:Ens} (hR: ∀e∈R,ltB k e.1=true): ∀l:Ens,insKv (l++R) k v=insKv l k v++R
 | []=>by
  cases R with
  |nil=>rfl
  |cons a r=>
   have:=hR a (by simp);have h1:ltB a.1 k=false:=ltB_asymm this;have h2:a.1≠k:=fun e=>by rw [e,ltB_irrefl] at this;cases this
   simp [insKv,h1,h2]
 |a::r=>by
  rw [List.cons_append,insKv,insKv];split
  ·rw [insKv_right hR r];rfl
  split<;>rfl
theorem insKv_left {k v:Bs} {l:Ens}: ∀L:Ens,(∀e∈L,ltB e.1 k=true)->insKv (L++l) k v=L++insKv l k v
 | [],_=>rfl
 |a::r,h=>by rw [List.cons_append,insKv,if_pos (h a (by simp)),insKv_left r (fun e he=>h e (by simp [he]))];rfl
theorem insKv_len {k v:Bs}: ∀l:Ens,l.length<=(insKv l k v).length/\(insKv l k v).length<=l.length+1
 | []=>by simp [insKv]
 |a::r=>by
  have:=insKv_len (k:=k) (v:=v) r;rw [insKv];split
  ·simp only [List.length_cons];omega
  split<;>simp only [List.length_cons]<;>omega
theorem Wand.keys {V:Vw} {n:Nat} {id lo hi fl nx ids kv key y} (h:Wand V n id lo hi fl nx ids kv key y) (h0:key≠ []) (hi':V y.id=some y) :
  V y.id=some y/\y.level=0/\y.id∈ids/\ ∃kvL kvR lo' hi',kv=kvL++y.ents++kvR/\InR lo' hi' key/\KvOk lo' hi' y.ents/\(∀e∈kvL,ltB e.1 key=true)/\(∀e∈kvR,ltB key e.1=true)/\
   ∀(V'':Vw) ents',(∀j∈ids,j≠y.id->V'' j=V j)->V'' y.id=some {y with ents:=ents'}->ents'.length<=8->KvOk lo' hi' ents'->SubT V'' n id lo hi fl nx ids (kvL++ents'++kvR):=by
 obtain ⟨w1,w2,w3,kvL,kvR,lo',hi',w4,w5,w6,w7,w8,w9⟩:=h;have hs:=w9 (V.upd y.id {y with ents:= [(key, [])]}) [(key, [])] (fun j _ hne=>upd_other hne) (upd_same _ _ _) (by simp) ⟨by simp [Sorted],fun e he=>by rw [List.mem_singleton] at he;subst he;exact ⟨h0,w5⟩⟩;have hk:=(SubT.kv n hs).1;rw [Sorted,List.append_assoc,List.pairwise_append] at hk;refine ⟨w1,w2,w3,kvL,kvR,lo',hi',w4,w5,w6,fun e he=>hk.2.2 e he (key, []) (by simp),fun e he=> ?_,w9⟩;have:=hk.2.1;rw [List.singleton_append,List.pairwise_cons] at this;exact this.1 e he
theorem InR.all (key:Bs):InR [] none key:=⟨by cases key<;>rfl,trivial⟩
theorem down_n {b:Bt} {key:Bs} (hi0:IdsOk b.view): ∀(n f:Nat) {id lo hi fl nx ids kv} (l:List Pg) (ks:List Nat),n+1<=f->ids.Nodup->SubT b.view n id lo hi fl nx ids kv->InR lo hi key->
  ∃l' ks' y,b.downF key f id l ks= .ok (l++l'++ [y],ks++ks')/\y.ents.length<=8/\Wand b.view n id lo hi fl nx ids kv key y
 |0,f,id,lo,hi,fl,nx,ids,kv,l,ks,hf,hnd,hs,hk=>by
  obtain ⟨f,rfl⟩: ∃g,f=g+1:=⟨f - 1,by omega⟩;obtain ⟨rfl,rfl,y,hy,h1,h2,h3,h4,h5,h6⟩:=hs;have hid:=hi0 _ y hy;subst h3;refine ⟨[], [],y,by rw [Bt.downF,page_of_view hy];simp only [];rw [if_pos h1];simp,h4,by rw [hid];exact hy,h1,by simp [hid], [], [],lo,hi,by simp,hk,⟨h5,h6⟩,ltB_irrefl _,fun h hh=>⟨h,hh,ltB_irrefl _⟩, ?_⟩;intro V'' ents' hf hy' hl' hkv;rw [hid] at hy';exact ⟨rfl,rfl,_,hy',h1,h2,by simp,by simpa using hl',by simpa using hkv.1,by simpa using hkv.2⟩
 |n+1,f,id,lo,hi,fl,nx,ids,kv,l,ks,hf,hnd,hs,hk=>by
  obtain ⟨f,rfl⟩: ∃g,f=g+1:=⟨f - 1,by omega⟩;obtain ⟨js,rfl,x,hx,hlv,hxn,hlen,⟨v,r,hes⟩,hch⟩:=hs;rw [hes] at hch;obtain ⟨pre,c,post,lo',hi',fl',nx',idsL,ids',idsR,kvL,kv',kvR,g1,g2,g3,g4,g5,rfl,rfl,g8,g9,g10⟩:=Chs.focus r ([],v) hch hk;have hcp:childP x key=pre.length:=by rw [childP_cnt hes (Chs.rise _ _ hch),g2]
  have hget:x.ents[pre.length]? =some c:=by rw [hes,g1];simp
  have hlt:pre.length<x.ents.length:=by rw [hes,g1];simp
  have hat:atP x (childP x key:Nat)= .ok (numberP c.2):=by
   have hd:x.ents.getD ((pre.length:Int)).toNat ([], [])=c:=by simp [List.getD,hget]
   rw [atP,hcp,if_neg (by omega),hd,if_neg (by simp [g4])]
  have hnd2:=List.nodup_cons.1 hnd;have hnd3:=List.nodup_append.1 hnd2.2;have hnd4:=List.nodup_append.1 hnd3.1;obtain ⟨l',ks',z,hr,hz8,w1,w2,w3,kL,kR,lo2,hi2,rfl,w5,w6,w7,w8,w9⟩:=down_n hi0 n f (l++ [x]) (ks++ [childP x key]) (by omega) hnd4.2.1 g5 g3;refine ⟨x::l',childP x key::ks',z, ?_,hz8,w1,w2,by simp [w3],kvL++kL,kR++kvR,lo2,hi2,by simp,w5,w6, ?_, ?_, ?_⟩
  ·rw [Bt.downF,page_of_view hx];simp only [];rw [if_neg (by omega),hat];simp only [];rw [hr];simp
  ·cases hq:ltB lo2 lo with
   |false=>rfl
   |true=>have h2:=ltB_le_trans hq g8;rw [w7] at h2;cases h2
  ·intro h hh;obtain ⟨h',e1,e2⟩:=g9 h hh;obtain ⟨h'',e3,e4⟩:=w8 h' e1;refine ⟨h'',e3, ?_⟩;cases hq:ltB h h'' with
   |false=>rfl
   |true=>have h2:=ltB_le_trans hq e4;rw [e2] at h2;cases h2
  intro V'' ents' hV hz hl hkv;have hzid:z.id≠id:=fun e=>hnd2.1 (by rw [<-e];simp [w3]);have hVo: ∀j,(j∈idsL\/j∈idsR)->V'' j=b.view j:=fun j hj=>by
   refine hV j (by rcases hj with h|h<;>simp [h]) (fun e=> ?_);subst e;rcases hj with h|h
   ·exact hnd4.2.2 _ h _ w3 rfl
   exact hnd3.2.2 _ (List.mem_append_right _ w3) _ h rfl
  have hsub:=w9 V'' ents' (fun j hj hne=>hV j (by simp [hj]) hne) hz hl hkv;have hall:=g10 (SubT V'' n) [] ids' (kL++ents'++kR) (fun id' lo hi fl nx is kv hj hs'=>SubT.frame n (fun j hjm=>hVo j (hj j hjm)) hs') ⟨g4,hsub⟩;refine ⟨idsL++ids'++idsR,rfl,x,by rw [hV id (by simp) (Ne.symm hzid)];exact hx,hlv,hxn,hlen,⟨v,r,hes⟩, ?_⟩;rw [hes,g1];simpa using hall
theorem lastPg_end (l:List Pg) (y:Pg):lastPg (l++ [y])=y:=by simp [lastPg,List.getLastD_eq_getLast?]
def lookKv:Ens->Bs->Option Bs
 | [],_=>none
 |e::r,k=>if ltB e.1 k then lookKv r k else if e.1=k then some e.2 else none
theorem lookKv_find {k:Bs}: ∀l:Ens,(if (findP l k).2 then some (l.getD (findP l k).1 ([], [])).2 else none)=lookKv l k
 | []=>rfl
 |e::r=>by
  have ih:=lookKv_find (k:=k) r;rw [findP,lookKv];split
  ·rw [<-ih];rfl
  by_cases h:e.1=k<;>simp [h]
theorem lookKv_right {k:Bs} {R:Ens} (hR: ∀e∈R,ltB k e.1=true): ∀l:Ens,lookKv (l++R) k=lookKv l k
 | []=>by
  cases R with
  |nil=>rfl
  |cons a r=>
   have:=hR a (by simp);have h1:ltB a.1 k=false:=ltB_asymm this;have h2:a.1≠k:=fun e=>by rw [e,ltB_irrefl] at this;cases this
   simp [lookKv,h1,h2]
 |a::r=>by rw [List.cons_append,lookKv,lookKv,lookKv_right hR r]
theorem lookKv_left {k:Bs} {l:Ens}: ∀L:Ens,(∀e∈L,ltB e.1 k=true)->lookKv (L++l) k=lookKv l k
 | [],_=>rfl
 |a::r,h=>by rw [List.cons_append,lookKv,if_pos (h a (by simp)),lookKv_left r (fun e he=>h e (by simp [he]))]
def Holds (b:Bt) (kv:Ens):Prop:= ∃n u fl ids,Tr b n u fl ids kv
structure RcOk (r:Rc):Prop where
 z:r.lsn=0/\r.back=0/\r.epoch=0/\r.group=0
 page:0<=r.page/\r.page<256
 kind:1<=r.kind/\r.kind<=6
 slot:0<=r.slot/\r.slot<32769
 key:r.key.length<=32
 val:r.val.length<=64
structure PgOk (x:Pg):Prop where
 id:0<=x.id/\x.id<256
 level:0<=x.level/\x.level<=16
 next: -1<=x.next/\x.next<256
 len:x.ents.length<=8
 ents: ∀e∈x.ents,e.1.length<=32/\e.2.length<=64
def AllOk (b:Bt):Prop:= ∀id x,b.page id= .ok x->PgOk x/\x.id=id
theorem effP_ok {x:Pg} {r:Rc} (hx:PgOk x) (hr:RcOk r):PgOk (effP x r):=by
 have h1:=hr.slot;have h2:=hx.len;unfold effP;split
 ·exact ⟨hx.id,⟨by simp only [];omega,by simp only [];omega⟩,⟨by simp,by simp⟩,by simp,by simp⟩
 split
 ·split
  ·refine ⟨hx.id,hx.level,hx.next, ?_,fun e he=> ?_⟩
   ·simp only [];rw [List.length_insertIdx];split<;>omega
   rcases (List.mem_insertIdx (by omega)).1 he with q|q
   ·subst q;exact ⟨hr.key,hr.val⟩
   exact hx.ents e q
  exact hx
 split
 ·split
  ·refine ⟨hx.id,hx.level,hx.next, ?_,fun e he=>hx.ents e (List.mem_of_mem_eraseIdx he)⟩;simp only [];rw [List.length_eraseIdx];split<;>omega
  exact hx
 split
 ·split
  ·refine ⟨hx.id,hx.level,hx.next,by simpa using h2,fun e he=> ?_⟩;simp only [] at he;obtain ⟨i,hi,he⟩:=List.getElem_of_mem he;rw [List.getElem_modify] at he;split at he
   ·subst he;exact ⟨(hx.ents _ (List.getElem_mem _)).1,hr.val⟩
   subst he;exact hx.ents _ (List.getElem_mem _)
  exact hx
 split
 ·refine ⟨hx.id,hx.level, ?_,hx.len,hx.ents⟩;simp only [];split<;>omega
 split
 ·refine ⟨hx.id,hx.level,hx.next, ?_,fun e he=>hx.ents e (List.mem_of_mem_take he)⟩;simp only [List.length_take];omega
 exact hx
theorem newPg_pgok {id:Int} (h:0<=id/\id<256):PgOk (newPg id):=⟨h,⟨by simp [newPg],by simp [newPg]⟩,⟨by simp [newPg],by simp [newPg]⟩,by simp [newPg],by simp [newPg]⟩
theorem AllOk.doR {b b':Bt} {r:Rc} (h:AllOk b) (hr:RcOk r) (hd:b.doR r= .ok b'):AllOk b':=by
 rw [Bt.doR] at hd;split at hd
 ·cases hd
 rename_i x hx;injection hd with hd
 have hx':PgOk x/\x.id=r.page:=by
  split at hx
  ·injection hx with hx;subst hx;exact ⟨newPg_pgok hr.page,rfl⟩
  exact h _ _ hx
 subst hd;intro id y hy;rw [Bt.page] at hy;simp only [] at hy;by_cases hk:id=r.page
 ·rw [if_pos hk] at hy;simp only [] at hy;injection hy with hy
  subst hy;rw [doPg_eff hx'.2.symm];exact ⟨effP_ok hx'.1 hr,by rw [(effP_id x r).1,hx'.2,hk]⟩
 rw [if_neg hk] at hy;exact h id y hy
def Runs (b b':Bt) (k:Nat):Prop:= ∃rs:List Rc,rs.length<=k/\(∀r∈rs,RcOk r)/\b.all rs= .ok b'
theorem AllOk.all {b':Bt}: ∀(rs:List Rc) {b:Bt},AllOk b->(∀r∈rs,RcOk r)->b.all rs= .ok b'->AllOk b'
 | [],b,h,_,ha=>by rw [Bt.all] at ha;injection ha with ha;subst ha;exact h
 |r::rs,b,h,hr,ha=>by
  rw [Bt.all] at ha;split at ha
  ·cases ha
  rename_i b1 hb;exact AllOk.all rs (h.doR (hr r (by simp)) hb) (fun q hq=>hr q (by simp [hq])) ha
theorem Runs.ok {b b':Bt} {k:Nat} (h:Runs b b' k) (ho:AllOk b):AllOk b':=by obtain ⟨rs,_,hr,ha⟩:=h;exact ho.all rs hr ha
theorem Runs.refl (b:Bt) (k:Nat):Runs b b k:=⟨[],by simp,by simp,rfl⟩
theorem Runs.trans {b b1 b2:Bt} {k l m:Nat} (h:Runs b b1 k) (h2:Runs b1 b2 l) (hm:k+l<=m):Runs b b2 m:=by
 obtain ⟨r1,a1,a2,a3⟩:=h;obtain ⟨r2,c1,c2,c3⟩:=h2;refine ⟨r1++r2,by rw [List.length_append];omega,fun r hr=> ?_,by rw [all_append _ _ a3];exact c3⟩;rcases List.mem_append.1 hr with q|q
 ·exact a2 r q
 exact c2 r q
theorem Runs.one {b b':Bt} {r:Rc} (h:b.doR r= .ok b') (hr:RcOk r):Runs b b' 1:=
 ⟨[r],by simp,by simpa using hr,by rw [Bt.all,h];rfl⟩
theorem Runs.mono {b b':Bt} {k l:Nat} (h:Runs b b' k) (hl:k<=l):Runs b b' l:=by obtain ⟨rs,a1,a2⟩:=h;exact ⟨rs,by omega,a2⟩
theorem page_lt {b:Bt} (h:AllOk b) {id:Int} {x:Pg} (hx:b.page id= .ok x):0<=id/\id<256:=by have:=h id x hx;rw [<-this.2];exact this.1.id
theorem numberP_nonneg (v:Bs):0<=numberP v:=by unfold numberP;omega
theorem take_runs {b b':Bt} {i:Int} (h:AllOk b) (ht:b.take= .ok (i,b')):Runs b b' 1/\0<=i/\i<256:=by
 rw [Bt.take] at ht;split at ht
 ·cases ht
 rename_i used free hp;have hrc: ∀a c:Int,RcOk {page:=1,kind:=4,val:=twoB a++twoB c}:=fun a c=>⟨⟨rfl,rfl,rfl,rfl⟩,⟨by simp,by simp⟩,⟨by simp,by simp⟩,⟨by simp,by simp⟩,by simp,by simp [twoB]⟩;have hu0:0<=used:=by
  rw [Bt.pages] at hp;split at hp
  ·cases hp
  split at hp
  ·cases hp
  injection hp with hp;injection hp with h1 h2;rw [<-h1];exact numberP_nonneg _
 split at ht
 ·split at ht
  ·cases ht
  split at ht
  ·cases ht
  rename_i b1 hc;injection ht with ht;injection ht with h1 h2;subst h1;subst h2
  exact ⟨Runs.one hc (hrc _ _),hu0,by omega⟩
 split at ht
 ·cases ht
 rename_i x hx;split at ht
 ·cases ht
 rename_i b1 hc;injection ht with ht;injection ht with h1 h2;subst h1;subst h2
 exact ⟨Runs.one hc (hrc _ _),page_lt h hx⟩
theorem fillR_ok {id level:Int} (hid:0<=id/\id<256): ∀(l:Ens) (i:Nat),i+l.length<=32768->(∀e∈l,e.1.length<=32/\e.2.length<=64)->(fillR id level i l).length=l.length/\ ∀r∈fillR id level i l,RcOk r
 | [],i,_,_=>by simp [fillR]
 |e::s,i,hl,he=>by
  simp only [List.length_cons] at hl;obtain ⟨h1,h2⟩:=fillR_ok hid (level:=level) s (i+1) (by omega) (fun q hq=>he q (by simp [hq]));refine ⟨by simp [fillR,h1],fun r hr=> ?_⟩;rw [fillR] at hr;rcases List.mem_cons.1 hr with q|q
  ·subst q;refine ⟨⟨rfl,rfl,rfl,rfl⟩,hid,⟨by simp,by simp⟩,⟨by simp only [];omega,by simp only [];omega⟩, ?_,(he e (by simp)).2⟩;simp only [];split
   ·simp
   exact (he e (by simp)).1
  exact h2 r q
theorem fill_runs {b b':Bt} {id level next:Int} {l:Ens} (hid:0<=id/\id<256) (hlv:0<=level/\level<=17) (hn: -1<=next/\next<256) (hl:l.length<=8) (he: ∀e∈l,e.1.length<=32/\e.2.length<=64)
  (ht:b.fill id level l next= .ok b'):Runs b b' 10:=by
 obtain ⟨h1,h2⟩:=fillR_ok (level:=level) hid l 0 (by omega) he;refine ⟨_, ?_, ?_,ht⟩
 ·simp only [List.cons_append,List.length_cons,List.length_append,h1];split<;>simp<;>omega
 intro r hr;simp only [List.cons_append,List.mem_cons,List.mem_append] at hr;rcases hr with q|q|q
 ·subst q;exact ⟨⟨rfl,rfl,rfl,rfl⟩,hid,⟨by simp,by simp⟩,⟨by simp only [];omega,by simp only [];omega⟩,by simp,by simp⟩
 ·exact h2 r q
 split at q
 ·cases q
 rename_i hne;rw [List.mem_singleton] at q;subst q;exact ⟨⟨rfl,rfl,rfl,rfl⟩,hid,⟨by simp,by simp⟩,⟨by simp only [];omega,by simp only [];omega⟩,by simp,by simp⟩
theorem getD_ok {l:Ens} (he: ∀e∈l,e.1.length<=32/\e.2.length<=64) (k:Nat):(l.getD k ([], [])).1.length<=32/\(l.getD k ([], [])).2.length<=64:=by
 rcases Nat.lt_or_ge k l.length with h|h
 ·rw [getD_get h];exact he _ (List.getElem_mem _)
 simp [List.getD,List.getElem?_eq_none h]
theorem splitRoot_runs {b b':Bt} {x:Pg} (h:AllOk b) (hx:PgOk x) (ht:b.splitRoot x= .ok b'):Runs b b' 25:=by
 have hlv:=hx.level;rw [Bt.splitRoot] at ht;split at ht
 ·cases ht
 rename_i l b1 t1;obtain ⟨r1,l1⟩:=take_runs h t1;have o1:=r1.ok h;split at ht
 ·cases ht
 rename_i r b2 t2;obtain ⟨r2,l2⟩:=take_runs o1 t2;have o2:=r2.ok o1;split at ht
 ·cases ht
 rename_i b3 t3;have r3:=fill_runs l1 (by omega) (by split<;>omega) (by rw [List.length_take];have:=hx.len;omega) (fun e he=>hx.ents e (List.mem_of_mem_take he)) t3;have o3:=r3.ok o2;split at ht
 ·cases ht
 rename_i b4 t4;have r4:=fill_runs l2 (by omega) (by omega) (by rw [List.length_drop];have:=hx.len;omega) (fun e he=>hx.ents e (List.mem_of_mem_drop he)) t4;have r5:Runs b4 b' 3:=by
  refine ⟨_,by simp, ?_,ht⟩;intro q hq;simp only [List.mem_cons,List.not_mem_nil,or_false] at hq;rcases hq with q|q|q<;>subst q
  ·exact ⟨⟨rfl,rfl,rfl,rfl⟩,⟨by simp,by simp⟩,⟨by simp,by simp⟩,⟨by simp only [];omega,by simp only [];omega⟩,by simp,by simp⟩
  ·exact ⟨⟨rfl,rfl,rfl,rfl⟩,⟨by simp,by simp⟩,⟨by simp,by simp⟩,⟨by simp,by simp⟩,by simp,by simp [twoB]⟩
  exact ⟨⟨rfl,rfl,rfl,rfl⟩,⟨by simp,by simp⟩,⟨by simp,by simp⟩,⟨by simp,by simp⟩,(getD_ok hx.ents 4).1,by simp [twoB]⟩
 exact ((((r1.trans r2 (Nat.le_refl _)).trans r3 (Nat.le_refl _)).trans r4 (Nat.le_refl _)).trans r5 (by decide))
theorem split_runs {b b':Bt} {p x:Pg} {k:Nat} (h:AllOk b) (hp:PgOk p) (hx:PgOk x) (hk:k<100) (ht:b.split p k x= .ok b'):Runs b b' 14:=by
 have hlv:=hx.level;have hnx:=hx.next;rw [Bt.split] at ht;split at ht
 ·cases ht
 rename_i id b1 t1;obtain ⟨r1,l1⟩:=take_runs h t1;have o1:=r1.ok h;split at ht
 ·cases ht
 rename_i b2 t2;have r2:=fill_runs l1 (by omega) (by split<;>omega) (by rw [List.length_drop];have:=hx.len;omega) (fun e he=>hx.ents e (List.mem_of_mem_drop he)) t2;split at ht
 ·cases ht
 rename_i b3 t3;have r3:=Runs.one t3 ⟨⟨rfl,rfl,rfl,rfl⟩,hx.id,⟨by simp,by simp⟩,⟨by simp,by simp⟩,by simp,by simp⟩;split at ht
 ·cases ht
 rename_i b4 t4;have r4:Runs b3 b4 1:=by
  split at t4
  ·exact Runs.one t4 ⟨⟨rfl,rfl,rfl,rfl⟩,hx.id,⟨by simp,by simp⟩,⟨by simp only [];omega,by simp only [];omega⟩,by simp,by simp⟩
  injection t4 with t4;subst t4;exact Runs.refl _ _
 have r5:=Runs.one ht ⟨⟨rfl,rfl,rfl,rfl⟩,hp.id,⟨by simp,by simp⟩,⟨by simp only [];omega,by simp only [];omega⟩,(getD_ok hx.ents 4).1,by simp [twoB]⟩;exact ((((r1.trans r2 (Nat.le_refl _)).trans r3 (Nat.le_refl _)).trans r4 (Nat.le_refl _)).trans r5 (by decide))
theorem atP_lt {x:Pg} {k:Nat} {i:Int} (h:atP x k= .ok i):k<x.ents.length:=by
 rw [atP] at h;split at h
 ·cases h
 omega
theorem roomF_runs {key:Bs} {b':Bt} {y:Pg}: ∀(f:Nat) {b:Bt} {x:Pg},AllOk b->PgOk x->Bt.roomF key f b x= .ok (b',y)->Runs b b' (14*f)/\PgOk y
 |0,b,x,h,hx,ht=>by rw [Bt.roomF] at ht;cases ht
 |f+1,b,x,h,hx,ht=>by
  rw [Bt.roomF] at ht;split at ht
  ·injection ht with ht;injection ht with h1 h2;subst h1;subst h2;exact ⟨Runs.refl _ _,hx⟩
  split at ht
  ·cases ht
  rename_i id hat;split at ht
  ·cases ht
  rename_i z hz;have hz':=(h _ _ hz).1;split at ht
  ·split at ht
   ·cases ht
   rename_i b1 t1;have hk:=atP_lt hat;have hxl:=hx.len;have r1:=split_runs h hx hz' (by omega) t1;have o1:=r1.ok h;split at ht
   ·cases ht
   rename_i x1 hx1;obtain ⟨r2,hy⟩:=roomF_runs f o1 (o1 _ _ hx1).1 ht;exact ⟨r1.trans r2 (by omega),hy⟩
  obtain ⟨r2,hy⟩:=roomF_runs f h hz' ht;exact ⟨r2.mono (by omega),hy⟩
theorem room_runs {key:Bs} {b b':Bt} {y:Pg} (h:AllOk b) (ht:b.room key= .ok (b',y)):Runs b b' 600/\PgOk y:=by
 rw [Bt.room] at ht;split at ht
 ·cases ht
 rename_i x hx;split at ht
 ·cases ht
 rename_i b1 x1 hq;have:Runs b b1 25/\PgOk x1:=by
  split at hq
  ·split at hq
   ·cases hq
   rename_i b2 t2;have r2:=splitRoot_runs h (h _ _ hx).1 t2;split at hq
   ·cases hq
   rename_i x2 hx2;injection hq with hq;injection hq with h1 h2;subst h1;subst h2
   exact ⟨r2,((r2.ok h) _ _ hx2).1⟩
  injection hq with hq;injection hq with h1 h2;subst h1;subst h2
  exact ⟨Runs.refl _ _,(h _ _ hx).1⟩
 obtain ⟨r1,hx1⟩:=this;obtain ⟨r2,hy⟩:=roomF_runs 34 (r1.ok h) hx1 ht;exact ⟨r1.trans r2 (by decide),hy⟩
theorem downF_ok {b:Bt} {key:Bs} (h:AllOk b): ∀(n:Nat) (id:Int) (l:List Pg) (ks:List Nat) {l':List Pg} {ks':List Nat},b.downF key n id l ks= .ok (l',ks')->PgOk (lastPg l')
 |0,id,l,ks,l',ks',ht=>by rw [Bt.downF] at ht;cases ht
 |n+1,id,l,ks,l',ks',ht=>by
  rw [Bt.downF] at ht;split at ht
  ·cases ht
  rename_i x hx;split at ht
  ·injection ht with ht;injection ht with h1 h2;subst h1;rw [lastPg_end];exact (h _ _ hx).1
  split at ht
  ·cases ht
  exact downF_ok h n _ _ _ ht
theorem put_runs {b b':Bt} {key val:Bs} (h:AllOk b) (ht:b.put key val= .ok b'):Runs b b' 601:=by
 rw [Bt.put] at ht;split at ht
 ·cases ht
 rename_i hg;have hk:key.length<=32:=by
  have:rightK key=true:=by cases hq:rightK key with|true=>rfl|false=>exact absurd (.inl hq) hg
  exact (rightK_len this).2
 have hv:val.length<=64:=by omega
 split at ht
 ·cases ht
 rename_i l ks hd;have hy:=downF_ok h 17 0 [] [] hd;simp only [] at ht;split at ht
 ·have:=findP_le (lastPg l).ents key;have:=hy.len;exact (Runs.one ht ⟨⟨rfl,rfl,rfl,rfl⟩,hy.id,⟨by simp,by simp⟩,⟨by simp only [];omega,by simp only [];omega⟩,by simp,hv⟩).mono (by decide)
 split at ht
 ·cases ht
 rename_i b1 z t1;obtain ⟨r1,hz⟩:=room_runs h t1;have:=findP_le z.ents key;have:=hz.len;exact r1.trans (Runs.one ht ⟨⟨rfl,rfl,rfl,rfl⟩,hz.id,⟨by simp,by simp⟩,⟨by simp only [];omega,by simp only [];omega⟩,hk,hv⟩) (by decide)
end Go.Proofs.YtkknmpkcfpdllaaGreatDoor.B
