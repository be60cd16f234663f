/- What functions of the program compute, each function once: steps over the model, and the plain law of it. -/
import Derived.Test.YtikllmoofngjnaaGreatDoorTHeal2
namespace Go.Proofs.YtikllmoofngjnaaGreatDoor.B
open Go Go.Proofs
set_option linter.unusedVariables false
set_option linter.unusedSimpArgs false
def nsix:List Int:= [0,1,2,3,4,5]
def cfg6:Cf:={old:=nsix}
theorem cfg6_six:cfg6.Six:=⟨by decide,by decide,rfl,by unfold RisesI;decide,by decide,rfl⟩
structure Six6 (cs:List Cp) (w5:Bool):Prop where
 len:cs.length=6
 id: ∀(i:Nat) (c:Cp),cs[i]? =some c->c.id=(i:Int)
 w: ∀(i:Nat) (c:Cp),cs[i]? =some c->c.w=(decide (i<5) ||w5)
theorem set_at {cs:List Cp} {i j:Nat} {c c':Cp} (h:(cs.set i c')[j]? =some c):(j=i/\c=c')\/(j≠i/\cs[j]? =some c):=by
 by_cases e:i=j
 ·subst e;rw [List.getElem?_set_self' ] at h;cases q:cs[i]? with
  |none=>rw [q] at h;cases h
  |some x=>rw [q] at h;left;exact ⟨rfl,(by simpa using h.symm)⟩
 rw [List.getElem?_set_ne e] at h;exact .inr ⟨fun q=>e q.symm,h⟩
theorem set_get {cs:List Cp} {i:Nat} {c c':Cp} (h:cs[i]? =some c):(cs.set i c')[i]? =some c':=by rw [List.getElem?_set_self (List.getElem?_eq_some_iff.1 h).1]
theorem Six6.at_ {cs:List Cp} {b:Bool} (h:Six6 cs b) {i:Nat} (hi:i<6): ∃c,cs[i]? =some c:=⟨_,List.getElem?_eq_getElem (by rw [h.len];exact hi)⟩
theorem Six6.set {cs:List Cp} {b:Bool} (h:Six6 cs b) {i:Nat} {c c':Cp} (hc:cs[i]? =some c) (h1:c'.id=c.id) (h2:c'.w=c.w):Six6 (cs.set i c') b:=by
 refine ⟨by rw [List.length_set];exact h.len,fun j x hx=> ?_,fun j x hx=> ?_⟩<;>rcases set_at hx with ⟨rfl,rfl⟩|⟨_,hx⟩
 ·rw [h1];exact h.id _ _ hc
 ·exact h.id _ _ hx
 ·rw [h2];exact h.w _ _ hc
 exact h.w _ _ hx
def born6 (i:Nat):Cp:={id:=(i:Int),l:= [],w:=decide (i<5),U:=fun _=>none}
def borns (n:Nat):List Cp:=(List.range n).map born6
theorem borns_succ (n:Nat):borns (n+1)=borns n++ [born6 n]:=by unfold borns;rw [List.range_succ,List.map_append];rfl
theorem borns_at {n i:Nat} {c:Cp} (h:(borns n)[i]? =some c):c=born6 i:=by
 unfold borns at h;rw [List.getElem?_map] at h;cases q:(List.range n)[i]? with
 |none=>rw [q] at h;cases h
 |some x=>
  rw [q] at h;have:=List.getElem?_eq_some_iff.1 q;obtain ⟨h1,h2⟩:=this;rw [List.getElem_range] at h2;subst h2;exact (by simpa using h.symm)
theorem borns_six:Six6 (borns 6) false:=⟨by unfold borns;simp,fun i c h=>by rw [borns_at h];rfl,fun i c h=>by rw [borns_at h];simp [born6]⟩
def Holds (cs:List Cp) (W:Nat->Nat->Prop):Prop:= ∀(j:Nat) (c:Cp),cs[j]? =some c-> ∀r,r∈c.l↔ ∃k,k<16/\r=hRec k/\W j k
theorem Holds.congr {cs:List Cp} {W W':Nat->Nat->Prop} (h:Holds cs W) (e: ∀j k,k<16->(W j k↔W' j k)):Holds cs W':=fun j c hc r=>(h j c hc r).trans
 ⟨fun ⟨k,a,b,q⟩=>⟨k,a,b,(e j k a).1 q⟩,fun ⟨k,a,b,q⟩=>⟨k,a,b,(e j k a).2 q⟩⟩
theorem Holds.set {cs:List Cp} {W W':Nat->Nat->Prop} (h:Holds cs W) {i:Nat} {c':Cp} (h1: ∀r,r∈c'.l↔ ∃k,k<16/\r=hRec k/\W' i k) (h2: ∀j,j≠i-> ∀k,W' j k↔W j k):Holds (cs.set i c') W':=fun j c hc r=>by
 rcases set_at hc with ⟨rfl,rfl⟩|⟨q,hc⟩
 ·exact h1 r
 refine (h j c hc r).trans ⟨fun ⟨k,a,b,e⟩=>⟨k,a,b,(h2 j q k).2 e⟩,fun ⟨k,a,b,e⟩=>⟨k,a,b,(h2 j q k).1 e⟩⟩
theorem Holds.rec {cs:List Cp} {W:Nat->Nat->Prop} (h:Holds cs W) {j k:Nat} {c:Cp} (hc:cs[j]? =some c) (hk:k<16):hRec k∈c.l↔W j k:=by
 rw [h j c hc];constructor
 ·rintro ⟨x,_,e,q⟩;rw [hRec_inj e];exact q
 intro q;exact ⟨k,hk,rfl,q⟩
def W0 (masks:List Int) (j k:Nat):Prop:=j<5/\ ∃m,masks[j]? =some m/\mBit m k=true
def Wr (masks:List Int) (i k0:Nat) (j k:Nat):Prop:=(j<i\/(j=i/\k<k0))/\W0 masks j k
theorem Wr_start (masks:List Int):Holds (borns 6) (Wr masks 0 0):=fun j c hc r=>by
 rw [borns_at hc];constructor
 ·intro h;cases h
 rintro ⟨k,_,_,h,_⟩;omega
theorem Wr_no {masks:List Int} {cs:List Cp} {i k:Nat} {m:Int} (h:Holds cs (Wr masks i k)) (hm:masks[i]? =some m) (hb:mBit m k=false):Holds cs (Wr masks i (k+1)):=h.congr fun j x hx=>by
 constructor
 ·rintro ⟨a,b⟩;exact ⟨by omega,b⟩
 rintro ⟨a,b⟩;refine ⟨?_,b⟩;by_cases e:j=i/\x=k
 ·obtain ⟨rfl,rfl⟩:=e;obtain ⟨_,m',h1,h2⟩:=b;rw [hm] at h1;obtain rfl:m=m':=by simpa using h1
  rw [hb] at h2;cases h2
 omega
theorem Wr_yes {masks:List Int} {cs:List Cp} {i k:Nat} {m:Int} (h:Holds cs (Wr masks i k)) (hm:masks[i]? =some m) (hb:mBit m k=true) (hi:i<5) (hk:k<16) {c c':Cp} (hc:cs[i]? =some c) (hl: ∀r,r∈c'.l↔r∈c.l\/r=hRec k):Holds (cs.set i c') (Wr masks i (k+1)):=by
 refine h.set (fun r=> ?_) (fun j hj x=> ?_)
 ·rw [hl r,h i c hc r];constructor
  ·rintro (⟨x,a,b,q1,q2⟩|rfl)
   ·exact ⟨x,a,b,by omega,q2⟩
   exact ⟨k,hk,rfl,by omega,hi,m,hm,hb⟩
  rintro ⟨x,a,b,q1,q2⟩;by_cases e:x=k
  ·subst e;exact .inr b
  exact .inl ⟨x,a,b,by omega,q2⟩
 constructor<;>rintro ⟨a,b⟩<;>exact ⟨by omega,b⟩
theorem Wr_next {masks:List Int} {cs:List Cp} {i:Nat} (h:Holds cs (Wr masks i 16)):Holds cs (Wr masks (i+1) 0):=h.congr fun j x hx=>by
 constructor<;>rintro ⟨a,b⟩<;>exact ⟨by omega,b⟩
theorem Wr_end {masks:List Int} {cs:List Cp} {i:Nat} (h:Holds cs (Wr masks i 0)) (he: ¬(i<masks.length/\i<5)):Holds cs (W0 masks):=h.congr fun j x hx=>by
 constructor
 ·rintro ⟨a,b⟩;exact b
 intro b;obtain ⟨b1,m,b2,b3⟩:=b;have:=(List.getElem?_eq_some_iff.1 b2).1;exact ⟨by omega,b1,m,b2,b3⟩
structure ToldI (masks:List Int) (cs:List Cp) (f i u:Nat):Prop where
 six:Six6 cs false
 has:Holds cs (W0 masks)
 ult:u<65536
 bits: ∀k,k<16->(u.testBit k=true↔ ∃t,t<i/\W0 masks ((f+t) % 5) k)
 told: ∀c5,cs[5]? =some c5-> ∀n m,c5.U n=some m↔ ∃t,t<i/\n=(((f+t) % 5:Nat):Int)/\ ∃c,cs[(f+t) % 5]? =some c/\m=tellOf c.l n 5
theorem ToldI.start {masks:List Int} {cs:List Cp} (h1:Six6 cs false) (h2:Holds cs (W0 masks)) (h3: ∀c5,cs[5]? =some c5->c5.U=fun _=>none) (f:Nat):ToldI masks cs f 0 0:=
 ⟨h1,h2,by decide,fun k hk=>by rw [Nat.zero_testBit];exact ⟨fun h=>(by cases h),fun ⟨t,h,_⟩=>absurd h (Nat.not_lt_zero _)⟩,fun c5 hc n m=>by rw [h3 c5 hc];exact ⟨fun h=>(by cases h),fun ⟨t,h,_⟩=>absurd h (Nat.not_lt_zero _)⟩⟩
theorem ToldI.step {masks:List Int} {cs:List Cp} {f i u:Nat} (h:ToldI masks cs f i u) {c c5:Cp} (hc:cs[(f+i) % 5]? =some c) (h5:cs[5]? =some c5) {u':Nat} (hu:u'<65536) (hb: ∀k,k<16->(u'.testBit k=true↔u.testBit k=true\/W0 masks ((f+i) % 5) k)) :
  ToldI masks (cs.set 5 {c5 with U:=updT c5.U (((f+i) % 5:Nat):Int) (tellOf c.l (((f+i) % 5:Nat):Int) 5)}) f (i+1) u':=by
 have hl: ∀t,(f+t) % 5≠5:=fun t=>by omega
 refine ⟨h.six.set h5 rfl rfl,h.has.set (fun r=>h.has 5 c5 h5 r) (fun j _ k=>Iff.rfl),hu,fun k hk=> ?_,fun x hx n m=> ?_⟩
 ·rw [hb k hk,h.bits k hk];constructor
  ·rintro (⟨t,a,b⟩|b)
   ·exact ⟨t,by omega,b⟩
   exact ⟨i,by omega,b⟩
  rintro ⟨t,a,b⟩;by_cases e:t=i
  ·subst e;exact .inr b
  exact .inl ⟨t,by omega,b⟩
 have e5:x={c5 with U:=updT c5.U (((f+i) % 5:Nat):Int) (tellOf c.l (((f+i) % 5:Nat):Int) 5)}:=by
  rcases set_at hx with ⟨_,e⟩|⟨q,_⟩
  ·exact e
  exact absurd rfl q
 subst e5;show updT c5.U _ _ n=some m↔_;unfold updT;split
 ·rename_i e;subst e;constructor
  ·intro q;exact ⟨i,by omega,rfl,c,by rw [List.getElem?_set_ne (fun q=>hl i q.symm)];exact hc,(by simpa using q.symm)⟩
  rintro ⟨t,a,b,c2,b2,b3⟩;rw [List.getElem?_set_ne (fun q=>hl t q.symm)] at b2;have:(f+i) % 5=(f+t) % 5:=by omega
  rw [<-this,hc] at b2;obtain rfl:c=c2:=by simpa using b2
  rw [b3]
 rename_i e;rw [h.told c5 h5 n m];constructor
 ·rintro ⟨t,a,b,c2,b2,b3⟩;exact ⟨t,by omega,b,c2,by rw [List.getElem?_set_ne (fun q=>hl t q.symm)];exact b2,b3⟩
 rintro ⟨t,a,b,c2,b2,b3⟩;rw [List.getElem?_set_ne (fun q=>hl t q.symm)] at b2;by_cases q:t=i
 ·subst q;exact absurd b e
 exact ⟨t,by omega,b,c2,b2,b3⟩
theorem ToldI.told3 {masks:List Int} {cs:List Cp} {f u:Nat} (h:ToldI masks cs f 3 u) (hf:f<5) (hH: ∀c∈cs,IsH c.l/\RisesR c.l) {c5:Cp} (h5:cs[5]? =some c5) :
  3<=(toldOf c5.U nsix).length/\(∀m∈toldOf c5.U nsix,TellOk m)/\ ∀r,(∃m∈toldOf c5.U nsix,r∈m.recs)↔ ∃k,k<16/\r=hRec k/\u.testBit k=true:=by
 have hU:=h.told c5 h5;refine ⟨?_,fun m hm=> ?_,fun r=> ?_⟩
 ·rw [<-told_len];have key: ∀n∈nsix,(c5.U n).isSome=decide (n∈ [(((f+0) % 5:Nat):Int),(((f+1) % 5:Nat):Int),(((f+2) % 5:Nat):Int)]):=fun n _=>by
   rw [Bool.eq_iff_iff,decide_eq_true_iff,Option.isSome_iff_exists];constructor
   ·rintro ⟨m,hm⟩;obtain ⟨t,a,b,_⟩:=(hU n m).1 hm;have:t=0\/t=1\/t=2:=by omega
    rcases this with rfl|rfl|rfl<;>simp [b]
   intro hn;have: ∃t,t<3/\n=(((f+t) % 5:Nat):Int):=by
    simp only [List.mem_cons,List.not_mem_nil,or_false] at hn;rcases hn with q|q|q
    ·exact ⟨0,by omega,q⟩
    ·exact ⟨1,by omega,q⟩
    exact ⟨2,by omega,q⟩
   obtain ⟨t,a,b⟩:=this;obtain ⟨c,hc⟩:=h.six.at_ (i:=(f+t) % 5) (by omega);exact ⟨_,(hU n _).2 ⟨t,a,b,c,hc,rfl⟩⟩
  unfold nodesOf;rw [List.filter_congr key];have:f=0\/f=1\/f=2\/f=3\/f=4:=by omega
  rcases this with rfl|rfl|rfl|rfl|rfl<;>decide
 ·obtain ⟨n,_,hn⟩:=List.mem_filterMap.1 hm;obtain ⟨t,a,b,c,hc,rfl⟩:=(hU n m).1 hn;have:=hH c (List.mem_of_getElem? hc);exact tell_ok this.1 (this.1.len this.2) _ _
 constructor
 ·rintro ⟨m,hm,hr⟩;obtain ⟨n,_,hn⟩:=List.mem_filterMap.1 hm;obtain ⟨t,a,b,c,hc,rfl⟩:=(hU n m).1 hn;obtain ⟨k,hk,e,q⟩:=(h.has _ c hc r).1 hr;exact ⟨k,hk,e,(h.bits k hk).2 ⟨t,a,q⟩⟩
 rintro ⟨k,hk,rfl,hb⟩;obtain ⟨t,a,q⟩:=(h.bits k hk).1 hb;obtain ⟨c,hc⟩:=h.six.at_ (i:=(f+t) % 5) (by omega);refine ⟨tellOf c.l (((f+t) % 5:Nat):Int) 5,List.mem_filterMap.2 ⟨(((f+t) % 5:Nat):Int), ?_,(hU _ _).2 ⟨t,a,rfl,c,hc,rfl⟩⟩,(h.has.rec hc hk).2 q⟩;have:(f+t) % 5=0\/(f+t) % 5=1\/(f+t) % 5=2\/(f+t) % 5=3\/(f+t) % 5=4:=by omega
 rcases this with e|e|e|e|e<;>rw [e]<;>decide
def TT (masks:List Int) (k:Nat):Prop:= ∃j,W0 masks j k
structure HealR (masks:List Int) (cs:List Cp):Prop where
 six:Six6 cs true
 sub: ∀(j:Nat) (c:Cp),cs[j]? =some c-> ∀r∈c.l,∃k,k<16/\r=hRec k/\TT masks k
 cov: ∀k,k<16->TT masks k-> ∃(j:Nat) (c:Cp),j<6/\cs[j]? =some c/\hRec k∈c.l
theorem ToldI.heal {masks:List Int} {cs:List Cp} {f u:Nat} (h:ToldI masks cs f 3 u) {c5 c':Cp} (h5:cs[5]? =some c5) (hid:c'.id=c5.id) (hw:c'.w=true) (hl: ∀r,r∈c'.l↔ ∃k,k<16/\r=hRec k/\u.testBit k=true):HealR masks (cs.set 5 c'):=by
 refine ⟨⟨by rw [List.length_set];exact h.six.len,fun j x hx=> ?_,fun j x hx=> ?_⟩,fun j x hx r hr=> ?_,fun k hk ht=> ?_⟩
 ·rcases set_at hx with ⟨rfl,rfl⟩|⟨_,hx⟩
  ·rw [hid];exact h.six.id _ _ h5
  exact h.six.id _ _ hx
 ·rcases set_at hx with ⟨rfl,rfl⟩|⟨q,hx⟩
  ·rw [hw];rfl
  rw [h.six.w _ _ hx];have:=(List.getElem?_eq_some_iff.1 hx).1;rw [h.six.len] at this;rw [decide_eq_true (show j<5 by omega)];rfl
 ·rcases set_at hx with ⟨rfl,rfl⟩|⟨_,hx⟩
  ·obtain ⟨k,hk,e,hb⟩:=(hl r).1 hr;obtain ⟨t,_,q⟩:=(h.bits k hk).1 hb;exact ⟨k,hk,e,_,q⟩
  obtain ⟨k,hk,e,q⟩:=(h.has _ _ hx r).1 hr;exact ⟨k,hk,e,_,q⟩
 obtain ⟨j,q⟩:=ht;obtain ⟨c,hc⟩:=h.six.at_ (i:=j) (by have:=q.1;omega);refine ⟨j,c,by have:=q.1;omega, ?_,(h.has.rec hc hk).2 q⟩;rw [List.getElem?_set_ne (by have:=q.1;omega)];exact hc
theorem HealR.fill {masks:List Int} {cs:List Cp} (h:HealR masks cs) {i j:Nat} {c cj:Cp} (hc:cs[i]? =some c) (hj:cs[j]? =some cj) {rs l':List Rc} (hrs: ∀r∈rs,r∈cj.l) (hl: ∀r,r∈l'↔r∈c.l\/r∈rs):HealR masks (cs.set i {c with l:=l'}):=by
 refine ⟨h.six.set hc rfl rfl,fun x y hy r hr=> ?_,fun k hk ht=> ?_⟩
 ·rcases set_at hy with ⟨rfl,rfl⟩|⟨_,hy⟩
  ·rcases (hl r).1 hr with q|q
   ·exact h.sub _ _ hc r q
   exact h.sub _ _ hj r (hrs r q)
  exact h.sub _ _ hy r hr
 obtain ⟨x,y,h1,h2,h3⟩:=h.cov k hk ht;by_cases e:i=x
 ·subst e;rw [hc] at h2;obtain rfl:c=y:=by simpa using h2
  exact ⟨i,_,h1,set_get hc,(hl _).2 (.inl h3)⟩
 exact ⟨x,y,h1,by rw [List.getElem?_set_ne e];exact h2,h3⟩
def TFar (masks:List Int) (n:Nat):Prop:=n<=16/\(∀k,k<n->TT masks k)/\ ¬(n<16/\TT masks n)
theorem tfar (masks:List Int): ∃n,TFar masks n:=by obtain ⟨n,h1,h2,h3⟩:=least (fun k=>k<16/\TT masks k) 16 (fun h=>by omega);exact ⟨n,h1,fun k hk=>(h2 k hk).2,h3⟩
def Low (l:List Rc) (n q:Nat):Prop:= ∀k,k<n->k<q->hRec k∈l
theorem HealR.far {masks:List Int} {cs:List Cp} (h:HealR masks cs) {n:Nat} (hn:TFar masks n) {j:Nat} {c:Cp} (hc:cs[j]? =some c) {q:Nat} (hq:16<=q) (hl:Low c.l n q):Far c.l n:=by have:=hn.1;refine ⟨hn.1,fun k hk=>hl k hk (by omega),fun hr=> ?_⟩;obtain ⟨k,hk,e,ht⟩:=h.sub j c hc _ hr;have:=hRec_inj e;subst this;exact hn.2.2 ⟨hk,ht⟩
def nth (i t:Nat):Nat:=if t<i then t else t+1
theorem nth_ne (i t:Nat):nth i t≠i:=by unfold nth;split<;>omega
theorem nth_lt {i t:Nat} (hi:i<6) (ht:t<5):nth i t<6:=by unfold nth;split<;>omega
theorem nth_of {i j:Nat} (hi:i<6) (hj:j<6) (h:j≠i): ∃t,t<5/\nth i t=j:=by
 by_cases q:j<i
 ·exact ⟨j,by omega,by unfold nth;rw [if_pos q]⟩
 exact ⟨j - 1,by omega,by unfold nth;rw [if_neg (by omega)];omega⟩
theorem asks6 {i:Nat} (hi:i<6) (s:Stt) (z:Int):asks (i:Int) 0 s z nsix= [askOf i 0 s z (nth i 0:Nat),askOf i 0 s z (nth i 1:Nat),askOf i 0 s z (nth i 2:Nat),askOf i 0 s z (nth i 3:Nat),askOf i 0 s z (nth i 4:Nat)]:=by
 have:i=0\/i=1\/i=2\/i=3\/i=4\/i=5:=by omega
 rcases this with rfl|rfl|rfl|rfl|rfl|rfl<;>rfl
theorem asks6_len {i:Nat} (hi:i<6) (s:Stt) (z:Int):(asks (i:Int) 0 s z nsix).length=5:=by rw [asks6 hi];rfl
theorem asks6_at {i t:Nat} (hi:i<6) (ht:t<5) (s:Stt) (z:Int):(asks (i:Int) 0 s z nsix)[t]? =some (askOf i 0 s z (nth i t:Nat)):=by
 rw [asks6 hi];have:t=0\/t=1\/t=2\/t=3\/t=4:=by omega
 rcases this with rfl|rfl|rfl|rfl|rfl<;>rfl
structure Turn (masks:List Int) (n:Nat) (cs:List Cp) (i z t q:Nat):Prop where
 base:HealR masks cs
 low: ∀(j:Nat) (c:Cp),cs[j]? =some c->Low c.l n q
 lowi: ∀(j:Nat) (c:Cp),j<i->cs[j]? =some c->Low c.l n (q+8)
 z16:z<=16
 zl: ∀c,cs[i]? =some c-> ∀k,k<z->hRec k∈c.l
 zq:n<=z\/q<=z
 got: ∀t',t'<t-> ∀c cn,cs[i]? =some c->cs[nth i t']? =some cn-> ∀k,hRec k∈cn.l->z<=k->k<z+8->hRec k∈c.l
structure Round (masks:List Int) (n:Nat) (cs:List Cp) (i q:Nat):Prop where
 base:HealR masks cs
 low: ∀(j:Nat) (c:Cp),cs[j]? =some c->Low c.l n q
 lowi: ∀(j:Nat) (c:Cp),j<i->cs[j]? =some c->Low c.l n (q+8)
theorem Round.start {masks:List Int} {n:Nat} {cs:List Cp} (h:HealR masks cs):Round masks n cs 0 0:=⟨h,fun j c hc k h1 h2=>absurd h2 (Nat.not_lt_zero _),fun j c hj=>absurd hj (Nat.not_lt_zero _)⟩
theorem Round.next {masks:List Int} {n:Nat} {cs:List Cp} {q:Nat} (h:Round masks n cs 6 q):Round masks n cs 0 (q+8):=
 ⟨h.base,fun j c hc=>h.lowi j c (by have:=(List.getElem?_eq_some_iff.1 hc).1;rw [h.base.six.len] at this;exact this) hc,fun j c hj=>absurd hj (Nat.not_lt_zero _)⟩
theorem Round.turn {masks:List Int} {n:Nat} {cs:List Cp} {i q z:Nat} (h:Round masks n cs i q) {c:Cp} (hc:cs[i]? =some c) (hz:Far c.l z):Turn masks n cs i z 0 q:=by
 refine ⟨h.base,h.low,h.lowi,hz.1,fun x hx k hk=> ?_, ?_,fun t' ht=>absurd ht (Nat.not_lt_zero _)⟩
 ·rw [hc] at hx;obtain rfl:c=x:=by simpa using hx
  exact hz.2.1 k hk
 rcases Nat.lt_or_ge z n with a|a
 ·rcases Nat.lt_or_ge z q with b|b
  ·exact absurd (h.low i c hc z a b) hz.2.2
  exact .inr b
 exact .inl a
theorem Turn.none {masks:List Int} {n:Nat} {cs:List Cp} {i z t q:Nat} (h:Turn masks n cs i z t q) {cn:Cp} (hn:cs[nth i t]? =some cn) (hs:RisesR cn.l) (ha:(abv z cn.l).length=0):Turn masks n cs i z (t+1) q:=by
 refine ⟨h.base,h.low,h.lowi,h.z16,h.zl,h.zq,fun t' ht c x hc hx k hk h1 h2=> ?_⟩;by_cases e:t'=t
 ·subst e;rw [hn] at hx;obtain rfl:cn=x:=by simpa using hx
  have:=abv_has hs hk (z:=z) (by show (z:Int)<(k:Int)+1;omega) (by show (k:Int)+1<=z+8;omega);rw [List.eq_nil_of_length_eq_zero ha] at this;cases this
 exact h.got t' (by omega) c x hc hx k hk h1 h2
theorem Turn.some {masks:List Int} {n:Nat} {cs:List Cp} {i z t q:Nat} (h:Turn masks n cs i z t q) {c cn:Cp} (hc:cs[i]? =some c) (hn:cs[nth i t]? =some cn) (hs:RisesR cn.l) {l':List Rc} (hl: ∀r,r∈l'↔r∈c.l\/r∈abv z cn.l):Turn masks n (cs.set i {c with l:=l'}) i z (t+1) q:=by
 have up: ∀{n q:Nat},Low c.l n q->Low l' n q:=fun hlo k a b=>(hl _).2 (.inl (hlo k a b));refine ⟨h.base.fill hc hn (fun r hr=>abv_sub hr) hl,fun j x hx=> ?_,fun j x hj hx=> ?_,h.z16,fun x hx k hk=> ?_,h.zq,fun t' ht x y hx hy k hk h1 h2=> ?_⟩
 ·rcases set_at hx with ⟨rfl,rfl⟩|⟨_,hx⟩
  ·exact up (h.low _ _ hc)
  exact h.low _ _ hx
 ·rcases set_at hx with ⟨rfl,rfl⟩|⟨_,hx⟩
  ·omega
  exact h.lowi _ _ hj hx
 ·rw [set_get hc] at hx;obtain rfl:_=x:=by simpa using hx
  exact (hl _).2 (.inl (h.zl c hc k hk))
 rw [set_get hc] at hx;obtain rfl:_=x:=by simpa using hx
 rw [List.getElem?_set_ne (fun q=>nth_ne i t' q.symm)] at hy;by_cases e:t'=t
 ·subst e;rw [hn] at hy;obtain rfl:cn=y:=by simpa using hy
  exact (hl _).2 (.inr (abv_has hs hk (by show (z:Int)<(k:Int)+1;omega) (by show (k:Int)+1<=z+8;omega)))
 exact (hl _).2 (.inl (h.got t' (by omega) c y hc hy k hk h1 h2))
theorem Turn.done {masks:List Int} {n:Nat} {cs:List Cp} {i z q:Nat} (h:Turn masks n cs i z 5 q) (hi:i<6) (hn:TFar masks n):Round masks n cs (i+1) q:=by
 refine ⟨h.base,h.low,fun j c hj hc=> ?_⟩;by_cases e:j=i
 ·subst e;intro k hk hq;rcases Nat.lt_or_ge k z with a|a
  ·exact h.zl c hc k a
  have:=hn.1;obtain ⟨x,cx,hx,hcx,hr⟩:=h.base.cov k (by omega) (hn.2.1 k hk);by_cases e:x=j
  ·subst e;rw [hc] at hcx;obtain rfl:c=cx:=by simpa using hcx
   exact hr
  obtain ⟨t,ht,rfl⟩:=nth_of hi hx e;exact h.got t ht c cx hc hcx k hr a (by have:=h.zq;omega)
 exact h.lowi j c (by omega) hc
theorem Six6.at2 {cs:List Cp} {b:Bool} (h:Six6 cs b) {i:Nat} (hi:i<6): ∃l U,cs[i]? =some ⟨(i:Int),l,(decide (i<5) ||b),U⟩:=by obtain ⟨⟨id,l,w,U⟩,hc⟩:=h.at_ hi;have h1:id=(i:Int):=h.id _ _ hc;have h2:w=(decide (i<5) ||b):=h.w _ _ hc;subst h1;subst h2;exact ⟨l,U,hc⟩
theorem Six6.at3 {cs:List Cp} (h:Six6 cs true) {i:Nat} (hi:i<6): ∃l U,cs[i]? =some ⟨(i:Int),l,true,U⟩:=by obtain ⟨l,U,hc⟩:=h.at2 hi;rw [Bool.or_true] at hc;exact ⟨l,U,hc⟩
theorem mBit_yes {m:Int} {k:Nat} (hk:k<16) (h:m.fdiv (2^min ((k:Nat):Int).toNat 64) % 2=1):mBit m k=true:=by
 rw [mBit_shr m hk] at h;cases q:mBit m k with
 |true=>rfl
 |false=>rw [q] at h;exact absurd h (by decide)
theorem mBit_no {m:Int} {k:Nat} (hk:k<16) (h:m.fdiv (2^min ((k:Nat):Int).toNat 64) % 2≠1):mBit m k=false:=by
 rw [mBit_shr m hk] at h;cases q:mBit m k with
 |false=>rfl
 |true=>rw [q] at h;exact absurd rfl h
theorem bit_yes {u k:Nat} (hu:u<65536) (hk:k<16) (h:u.testBit k=true):((u:Nat):Int).fdiv (2^min ((k:Nat):Int).toNat 64) % 2=1:=by rw [mBit_shr _ hk];unfold mBit;rw [mN_nat hu,h];rfl
theorem bit_no {u k:Nat} (hu:u<65536) (hk:k<16) (h:u.testBit k=false):((u:Nat):Int).fdiv (2^min ((k:Nat):Int).toNat 64) % 2≠1:=by rw [mBit_shr _ hk];unfold mBit;rw [mN_nat hu,h];decide
theorem W0_five {masks:List Int} {cs:List Cp} (h:Holds cs (W0 masks)) {c:Cp} (hc:cs[5]? =some c):c.l= []:=List.eq_nil_iff_forall_not_mem.2 fun r hr=>by
 obtain ⟨k,_,_,q⟩:=(h 5 c hc r).1 hr;have:=q.1;omega
theorem hasR_bit {h:Ht} (H:HtI h) {u:Nat} (hl: ∀r,r∈h.l↔ ∃k,k<16/\r=hRec k/\u.testBit k=true) {k:Nat} (hk:k<16):hasR h.l ((k:Int)+1)=u.testBit k:=by
 rw [Bool.eq_iff_iff,H.has,hl];constructor
 ·rintro ⟨x,_,e,q⟩;rw [hRec_inj e];exact q
 intro q;exact ⟨k,hk,rfl,q⟩
def PtR (D:Sto) (vs:List Value) (x:Value):Prop:=vs= [x]/\x.oneCell'=true
theorem PtR.keeps:Keeps PtR:=fun _ _ _ _ _ h=>h
theorem IntR.six {D:Sto} {b T:Nat} {fr:Nat×Nat} (h:D b=some (.cells #[.int .i64 0, .int .i64 1, .int .i64 2, .int .i64 3, .int .i64 4, .int .i64 5] T fr)):DR 1 IntR D (.slice (some ⟨b,0,none⟩) 6 6) nsix:=
 ⟨_,_,rfl,Nat.le_refl 6,(fun q=>by cases q),fun _=>⟨b,0,_,T,fr,rfl,h,fun i x hx=>by
  have hi:=(List.getElem?_eq_some_iff.1 hx).1;have hi:i<6:=hi;have:i=0\/i=1\/i=2\/i=3\/i=4\/i=5:=by omega
  rcases this with rfl|rfl|rfl|rfl|rfl|rfl<;>(obtain rfl:_=x:=by simpa [nsix] using hx)<;>exact ⟨[_],rfl,rfl,fun j u hu=>by cases j with|zero=>(obtain rfl:_=u:=by simpa using hu);rfl|succ j=>simp at hu⟩⟩⟩
theorem nth5 {k:Nat} (h:k<5):nth 5 k=k:=by unfold nth;rw [if_pos h]
theorem toldI_bits {masks:List Int} {k0 u:Nat} {m:Int} (h5:k0<5) (hm:masks[k0]? =some m) (k:Nat):(u |||mN m).testBit k=true↔u.testBit k=true\/W0 masks k0 k:=by
 rw [or_bit,Bool.or_eq_true];refine or_congr Iff.rfl ⟨fun q=>⟨h5,m,hm,q⟩,fun ⟨_,m',e,q⟩=> ?_⟩;rw [hm] at e;obtain rfl:m=m':=by simpa using e
 exact q
theorem toldI_none {masks:List Int} {k0 u:Nat} (hm: ¬k0<masks.length) (k:Nat):u.testBit k=true↔u.testBit k=true\/W0 masks k0 k:=
 ⟨.inl,fun q=>q.elim id fun ⟨_,m,e,_⟩=>absurd (List.getElem?_eq_some_iff.1 e).1 hm⟩
end Go.Proofs.YtikllmoofngjnaaGreatDoor.B
