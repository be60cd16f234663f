/- What functions of the program compute, each function once: steps over the model, and the plain law of it. -/
import Derived.Test.YtkknmpkcfpdllaaDoorTTreeLawA
namespace Go.Proofs.YtkknmpkcfpdllaaDoor.B
open Go
set_option linter.unusedVariables false
set_option linter.unusedSimpArgs false
set_option linter.unnecessarySimpa false
def FreeC (V:Vw):Int→List Int→Prop
 |f, []=>f=0
 |f,j::r=>f=j∧1<j∧j<256∧ ∃y,V j=some y∧y.level=0∧y.ents= []∧FreeC V (max y.next 0) r
def upTo (u:Nat):List Int:=(List.range' u (256 - u)).map fun i=>((i:Nat):Int)
theorem upTo_cons {u:Nat} (h:u<256):upTo u=(u:Int)::upTo (u+1):=by unfold upTo;rw [show 256 - u=(256 - (u+1))+1 by omega,List.range'_succ];rfl
theorem upTo_nil {u:Nat} (h:256≤u):upTo u= []:=by unfold upTo;rw [show 256 - u=0 by omega];rfl
theorem mem_upTo {u:Nat} {j:Int}:j∈upTo u↔(u:Int)≤j∧j<256:=by
 unfold upTo;rw [List.mem_map];constructor
 ·rintro ⟨i,hi,rfl⟩;rw [List.mem_range'_1] at hi;omega
 intro h;exact ⟨j.toNat,by rw [List.mem_range'_1];omega,by omega⟩
structure AvU (V:Vw) (u:Nat) (f:Int) (fr:List Int):Prop where
 m: ∃x,V 1=some x∧x.ents= [([110],twoB u++twoB f)]
 c:FreeC V f fr
 u1:1<u
 u2:u≤256
def AvV (V:Vw) (av:List Int):Prop:= ∃u f fr,AvU V u f fr∧av=fr++upTo u
theorem FreeC.frame {V V':Vw}: ∀(fr:List Int) {f:Int},(∀j∈fr,V' j=V j)→FreeC V f fr→FreeC V' f fr
 | [],_,_,h=>h
 |j::r,_,hf,⟨h1,h2,h3,y,h4,h5,h6,h7⟩=>⟨h1,h2,h3,y,by rw [hf j (by simp)];exact h4,h5,h6,FreeC.frame r (fun k hk=>hf k (by simp [hk])) h7⟩
theorem FreeC.rg {V:Vw}: ∀(fr:List Int) {f:Int},FreeC V f fr→(∀j∈fr,1<j∧j<256)∧0≤f∧f<256
 | [],_,h=>⟨by simp,by have:_=(0:Int):=h;omega⟩
 |j::r,_,⟨h1,h2,h3,y,h4,h5,h6,h7⟩=>⟨fun k hk=>by
   rcases List.mem_cons.1 hk with q|q
   ·subst q;exact ⟨h2,h3⟩
   exact (FreeC.rg r h7).1 k q,by omega⟩
theorem AvV.frame {V V':Vw} {av:List Int} (h:AvV V av) (h1:V' 1=V 1) (hf: ∀j∈av,V' j=V j):AvV V' av:=by obtain ⟨u,f,fr,⟨m,c,u1,u2⟩,rfl⟩:=h;exact ⟨u,f,fr,⟨by rw [h1];exact m,c.frame fr (fun j hj=>hf j (by simp [hj])),u1,u2⟩,rfl⟩
theorem AvU.pages {b:Bt} {u:Nat} {f:Int} {fr:List Int} (h:AvU b.view u f fr):b.pages= .ok ((u:Int),f):=by
 obtain ⟨x,hx,hxe⟩:=h.m;have hu:=h.u2;have hf:=(FreeC.rg fr h.c).2;rw [Bt.pages,page_of_view hx];simp only [hxe];rw [if_neg (by simp [twoB])];have e1:numberP (([([110],twoB u++twoB f)]:Ens).getD 0 ([], [])).2=(u:Int):=by have:=numberP_twoB (u:=(u:Int)) (by omega) (by omega);simpa [numberP,twoB] using this
 have e2:numberP ((([([110],twoB u++twoB f)]:Ens).getD 0 ([], [])).2.drop 2)=f:=by have:=numberP_twoB (u:=f) (by omega) (by omega);simpa [numberP,twoB] using this
 rw [e1,e2]
theorem count_view {b:Bt} {u:Nat} {f:Int} {fr:List Int} (h:AvU b.view u f fr) (hi:IdsOk b.view) (a c:Int) :
  ∃b' m,b.count a c= .ok b'∧b'.view=b.view.upd 1 m∧m.id=1∧m.ents= [([110],twoB a++twoB c)]:=by
 obtain ⟨x,hx,hxe⟩:=h.m;have hid:=hi 1 x hx;obtain ⟨b',h2,hv⟩:=doR_view (b:=b) (r:={page:=1,kind:=4,val:=twoB a++twoB c}) (x:=x) (.inr ⟨by simp,hx⟩) hid;have he:effP x {page:=1,kind:=4,val:=twoB a++twoB c}={x with ents:= [([110],twoB a++twoB c)]}:=by unfold effP;rw [if_neg (by simp),if_neg (by simp),if_neg (by simp),if_pos rfl,if_pos (by rw [hxe];simp),hxe];rfl
 rw [he] at hv;exact ⟨b',_,h2,hv,hid,rfl⟩
theorem take_av {b:Bt} {p:Int} {av:List Int} (h:AvV b.view (p::av)) (hi:IdsOk b.view) (hn:(p::av).Nodup) :
  ∃b' m,b.take= .ok (p,b')∧b'.view=b.view.upd 1 m∧m.id=1∧AvV b'.view av:=by
 obtain ⟨u,f,fr,h,he⟩:=h;have hp:=h.pages;have hu:=h.u2;have hu1:=h.u1;cases fr with
 |nil=>
  have hf:f=0:=h.c;subst hf;have hlt:u<256:=by
   rcases Nat.lt_or_ge u 256 with q|q
   ·exact q
   rw [List.nil_append,upTo_nil q] at he;cases he
  rw [List.nil_append,upTo_cons hlt] at he;injection he with h1 h2
  subst h1;obtain ⟨b',m,hc,hv,m1,m2⟩:=count_view h hi ((u:Int)+1) 0;refine ⟨b',m, ?_,hv,m1,u+1,0, [],⟨⟨m,by rw [hv,upd_same],m2⟩,rfl,by omega,by omega⟩,h2⟩;rw [Bt.take,hp];simp only [if_true];rw [if_neg (by omega),hc]
 |cons j r=>
  obtain ⟨rfl,c2,c3,y,c4,c5,c6,c7⟩:=h.c;rw [List.cons_append] at he;injection he with h1 h2
  subst h1;subst h2;obtain ⟨b',m,hc,hv,m1,m2⟩:=count_view h hi u (max y.next 0);have hne: ∀k∈r,k≠1:=fun k hk=>by have:=(FreeC.rg r c7).1 k hk;omega
  refine ⟨b',m, ?_,hv,m1,u,_,r,⟨⟨m,by rw [hv,upd_same],m2⟩,c7.frame r (fun k hk=>by rw [hv,upd_other (hne k hk)]),hu1,hu⟩,rfl⟩;rw [Bt.take,hp];simp only [];rw [if_neg (by omega),page_of_view c4];simp only [];rw [hc]
theorem take_full {b:Bt} (h:AvV b.view []):b.take= .fail 109 none:=by
 obtain ⟨u,f,fr,h,he⟩:=h;have hp:=h.pages;have hu:=h.u2;obtain ⟨rfl,h2⟩:=List.append_eq_nil_iff.1 he.symm;have hf:f=0:=h.c;subst hf;have hge: ¬u<256:=fun q=>by rw [upTo_cons q] at h2;cases h2
 rw [Bt.take,hp];simp only [if_true];rw [if_pos (by omega)]
theorem free_av {b:Bt} {p:Int} {av:List Int} (h:AvV b.view av) (hi:IdsOk b.view) (hp1:1<p) (hp2:p<256) (hn:p ∉ av) :
  ∃b' m,b.free p= .ok b'∧m.id=1∧(∃q,q.id=p∧b'.view=(b.view.upd p q).upd 1 m)∧AvV b'.view (p::av):=by
 obtain ⟨u,f,fr,h,rfl⟩:=h;have hpg:=h.pages;have hf:=(FreeC.rg fr h.c).2;have hu1:=h.u1;have hu2:=h.u2;obtain ⟨b1,t1,v1⟩:=doR_view (b:=b) (r:={page:=p,kind:=1}) (x:=newPg p) (.inl ⟨rfl,rfl⟩) rfl;have e1:effP (newPg p) {page:=p,kind:=1}=⟨p,0,0, -1, []⟩:=by unfold effP;rw [if_pos rfl];rfl
 rw [e1] at v1;obtain ⟨b2,t2,v2⟩:=doR_view (b:=b1) (r:={page:=p,kind:=5,slot:=if f=0 then 256 else f}) (x:=⟨p,0,0, -1, []⟩) (.inr ⟨by simp,by rw [v1];exact upd_same _ _ _⟩) rfl;have e2:effP ⟨p,0,0, -1, []⟩ {page:=p,kind:=5,slot:=if f=0 then 256 else f}=⟨p,0,0,if f=0 then -1 else f, []⟩:=by
  unfold effP;rw [if_neg (by simp),if_neg (by simp),if_neg (by simp),if_neg (by simp),if_pos rfl];simp only [];by_cases h0:f=0
  ·rw [if_pos h0,if_pos h0,if_pos (by omega)]
  rw [if_neg h0,if_neg h0,if_neg (by omega)]
 rw [e2] at v2;have v2':b2.view=b.view.upd p ⟨p,0,0,if f=0 then -1 else f, []⟩:=by
  rw [v2,v1];funext j;by_cases hj:j=p
  ·subst hj;simp only [upd_same]
  simp only [upd_other hj]
 have hA:AvU b2.view u f fr:=by obtain ⟨x,hx,hxe⟩:=h.m;refine ⟨⟨x,by rw [v2',upd_other (by omega)];exact hx,hxe⟩,h.c.frame fr (fun k hk=> ?_),hu1,hu2⟩;rw [v2',upd_other];rintro rfl;exact hn (by simp [hk])
 obtain ⟨b3,m,t3,v3,m1,m2⟩:=count_view hA (by rw [v2'];exact hi.upd rfl) u p;refine ⟨b3,m, ?_,m1,⟨_,rfl,by rw [v3,v2']⟩,u,p,p::fr,⟨⟨m,by rw [v3,upd_same],m2⟩,⟨rfl,hp1,hp2,_,by rw [v3,upd_other (by omega),v2',upd_same],rfl,rfl, ?_⟩,hu1,hu2⟩,by simp⟩
 ·rw [Bt.free,hpg];simp only [];rw [Bt.all,t1];simp only [];rw [Bt.all,t2];simp only [];rw [Bt.count] at t3;rw [Bt.all,t3];rfl
 have e4:max (if f=0 then -1 else f) 0=f:=by split<;>omega
 simp only [];rw [e4];refine h.c.frame fr (fun k hk=> ?_);have h1:k≠p:=by rintro rfl;exact hn (by simp [hk])
 have h2:=(FreeC.rg fr h.c).1 k hk;rw [v3,upd_other (by omega),v2',upd_other h1]
end Go.Proofs.YtkknmpkcfpdllaaDoor.B
