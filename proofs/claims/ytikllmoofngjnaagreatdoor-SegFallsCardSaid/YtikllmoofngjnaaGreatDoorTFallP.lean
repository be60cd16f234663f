/- What functions of the program compute, each function once: steps over the model, and the plain law of it. -/
import Derived.Test.YtikllmoofngjnaaGreatDoorTSegX4
import Derived.Test.YtikllmoofngjnaaGreatDoorTSegX6
import Derived.Test.YtikllmoofngjnaaGreatDoorTSegF1
namespace Go.Proofs.YtikllmoofngjnaaGreatDoor.B
open Go Go.Proofs
set_option linter.unusedVariables false
set_option linter.unusedSimpArgs false
structure NumR (f:Nat->Rc):Prop where
 lsn: ∀k,(f k).lsn=k+1
 back: ∀k,(f k).back=k
def rowN (f:Nat->Rc) (i:Nat):List Rc:=(List.range i).map f
theorem rowN_succ (f:Nat->Rc) (i:Nat):rowN f (i+1)=rowN f i++ [f i]:=by unfold rowN;rw [List.range_succ,List.map_append];rfl
theorem rowN_len (f:Nat->Rc) (i:Nat):(rowN f i).length=i:=by unfold rowN;simp
theorem rowN_mem {f:Nat->Rc} {i:Nat} {r:Rc}:r∈rowN f i↔ ∃k,k<i/\r=f k:=by
 unfold rowN;rw [List.mem_map];constructor
 ·rintro ⟨k,hk,rfl⟩;exact ⟨k,List.mem_range.1 hk,rfl⟩
 rintro ⟨k,hk,rfl⟩;exact ⟨k,List.mem_range.2 hk,rfl⟩
theorem rowN_rises {f:Nat->Rc} (hf:NumR f): ∀i,RisesR (rowN f i)
 |0=>List.Pairwise.nil
 |i+1=>by
  rw [rowN_succ];refine List.pairwise_append.2 ⟨rowN_rises hf i,List.pairwise_singleton _ _,fun a ha b hb=> ?_⟩;obtain ⟨k,hk,rfl⟩:=rowN_mem.1 ha;rw [List.mem_singleton.1 hb,hf.lsn,hf.lsn];omega
theorem tw_self: ∀(l:List Rc) (p:Rc->Bool),(∀r∈l,p r=true)->l.takeWhile p=l
 | [],_,_=>rfl
 |a::l,p,h=>by rw [List.takeWhile_cons,if_pos (h a (by simp)),tw_self l p fun r hr=>h r (by simp [hr])]
theorem plR_all {l:List Rc} {n:Int} (h: ∀r∈l,r.lsn<n):plR l n=l.length:=by unfold plR;rw [tw_self l _ fun r hr=>decide_eq_true (h r hr)]
theorem putR_end {l:List Rc} {r:Rc} (h: ∀x∈l,x.lsn<r.lsn):putR l r=l++ [r]:=by unfold putR;rw [plR_all h,List.take_length,List.drop_length]
theorem hasR_none {l:List Rc} {n:Int} (h: ∀r∈l,r.lsn≠n):hasR l n=false:=List.any_eq_false.2 fun r hr=>by simp [h r hr]
theorem rises_backs {l:List Rc} (hs:RisesR l) (hb: ∀r∈l,r.lsn=r.back+1):BacksR l:=fun i j x y hx hy e=>by
 obtain ⟨h1,e1⟩:=List.getElem?_eq_some_iff.1 hx;obtain ⟨h2,e2⟩:=List.getElem?_eq_some_iff.1 hy;have b1:=hb x (List.mem_of_getElem? hx);have b2:=hb y (List.mem_of_getElem? hy);rcases Nat.lt_trichotomy i j with q|q|q
 ·have:=List.pairwise_iff_getElem.1 hs i j h1 h2 q;rw [e1,e2] at this;omega
 ·exact q
 have:=List.pairwise_iff_getElem.1 hs j i h2 h1 q;rw [e1,e2] at this;omega
theorem chain_to {l:List Rc} (hb: ∀r∈l,r.lsn=r.back+1) {n:Int} (hno: ∀r∈l,r.lsn≠n+1): ∀(d:Nat) (a:Int),a+d=n->(∀k,a<k->k<=n-> ∃r∈l,r.lsn=k)->ChainR l a n
 |0,a,e,_=>by
  obtain rfl:a=n:=by omega
  exact .stop a fun r hr q=>hno r hr (by have:=hb r hr;omega)
 |d+1,a,e,hk=>by
  obtain ⟨r,hr,q⟩:=hk (a+1) (by omega) (by omega);have hq:=hb r hr;obtain rfl:a=r.back:=by omega
  exact .next r hr (chain_to hb hno d r.lsn (by omega) fun k h1 h2=>hk k (by omega) h2)
section
variable {f:Nat->Rc}
theorem rowN_lsns (hf:NumR f) (i:Nat): ∀r∈rowN f i,r.lsn=r.back+1:=fun r hr=>by
 obtain ⟨k,hk,rfl⟩:=rowN_mem.1 hr;rw [hf.lsn,hf.back]
theorem rowN_chain (hf:NumR f) (i:Nat):ChainR (rowN f i) 0 i/\ ∀u,ChainR (rowN f i) 0 u->u=i:=by
 have hk: ∀k:Int,0<k->k<=i-> ∃r∈rowN f i,r.lsn=k:=fun k h1 h2=>by
  obtain ⟨j,rfl⟩: ∃j:Nat,k=j+1:=⟨(k - 1).toNat,by omega⟩;exact ⟨f j,rowN_mem.2 ⟨j,by omega,rfl⟩,hf.lsn j⟩
 have hno: ∀r∈rowN f i,r.lsn≠(i:Int)+1:=fun r hr e=>by
  obtain ⟨k,hk,rfl⟩:=rowN_mem.1 hr;rw [hf.lsn] at e;omega
 exact ⟨chain_to (rowN_lsns hf i) hno i 0 (by omega) hk,fun u hu=>chain_upto (rowN_lsns hf i) hu i (by omega) hk hno⟩
theorem rowN_fine (hf:NumR f) {h:Ht} {i:Nat} (hl:h.l=rowN f i) (hk:h.KnownOk) (hi:i<=16384):h.Fine:=
 ⟨by rw [hl,rowN_len];exact hi,by rw [hl];exact rises_backs (rowN_rises hf i) (rowN_lsns hf i),fun r hr=>by rw [hl] at hr;have:=rowN_lsns hf i r hr;omega,hk⟩
theorem addN {h:Ht} {k:Nat} (hf:NumR f) (hs:h.spans= []) (hl:h.l=rowN f k):h.isnew (f k)=true/\h.add (f k)={h with l:=rowN f (k+1),known:=false}:=by
 have hlt: ∀r∈h.l,r.lsn<(f k).lsn:=fun r hr=>by
  rw [hl] at hr;obtain ⟨j,hj,rfl⟩:=rowN_mem.1 hr;rw [hf.lsn,hf.lsn];omega
 have h1:deadS h.spans (f k).lsn (f k).epoch=false:=by rw [hs];rfl
 have h2:hasR h.l (f k).lsn=false:=hasR_none fun r hr e=>by have:=hlt r hr;omega
 obtain ⟨n1,n2⟩:=Ht.add_new h1 h2;refine ⟨n1, ?_⟩;rw [n2,putR_end hlt,rowN_succ,hl]
end
def fF (k:Nat):Rc:={lsn:=(k:Int)+1,back:=k,kind:=1}
theorem fF_num:NumR fF:=⟨fun k=>rfl,fun k=>rfl⟩
theorem fF_valid {k:Nat} (hk:k<=100):validR (fF k)=true:=
 validR_iff.2 ⟨by show 1<=(k:Int)+1;omega,by show (k:Int)+1<=1099511627776;omega,(by decide:(0:Int)<=0),(by decide:(0:Int)<1073741825),(by decide:(0:Int)<=0),(by decide:(0:Int)<4),(by decide:(0:Int)<=0),(by decide:(0:Int)<256),by show 0<=(k:Int);omega,by show (k:Int)<k+1;omega,(by decide:(0:Int)<=0),(by decide:(0:Int)<32769),(by decide:(1:Int)<=1),(by decide:(1:Int)<=6),(by decide:0<=32),(by decide:0<=64)⟩
theorem fF_ok {k:Nat} (hk:k<=100):ROk (fF k):=⟨by show -4611686018427387904<=(k:Int)+1;omega,by show (k:Int)+1<=4611686018427387904;omega,(by decide:(0:Int)<=0),(by decide:(0:Int)<=4611686018427387904),(by decide:0<=100000),(by decide:0<=100000)⟩
def mW (k:Nat):Ms:={kind:=1,from_:=60,to_:=1,recs:= [fF k]}
def mP (e:Int):Ms:={kind:=7,from_:=60,to_:=1,epoch:=e}
theorem mW_ok {k:Nat} (hk:k<=100):(mW k).Ok:=
 ⟨(by decide:(1:Int)<=1/\(1:Int)<=15),(by decide:(0:Int)<=60/\(60:Int)<=63),(by decide:(0:Int)<=1/\(1:Int)<=63),(by decide:(0:Int)<=0/\(0:Int)<=1073741824),(by decide:(0:Int)<=0/\(0:Int)<=1073741824),(by decide:(0:Int)<=0/\(0:Int)<=3),(by decide:(0:Int)<=0/\(0:Int)<=255),(by decide:(0:Int)<=0/\(0:Int)<=1099511627776),(by decide:(0:Int)<=0/\(0:Int)<=1099511627776),(by decide:(0:Int)<=0/\(0:Int)<=1073741824),(by decide:(0:Int)<=0/\(0:Int)<=1073741824),⟨by show 1<=16384;decide,(fun r hr=>by rw [List.mem_singleton.1 hr];exact fF_valid hk)⟩,spansOk.nil,rfl⟩
theorem mP_ok {e:Int} (h0:0<=e) (h1:e<=1073741824):(mP e).Ok:=
 ⟨(by decide:(1:Int)<=7/\(7:Int)<=15),(by decide:(0:Int)<=60/\(60:Int)<=63),(by decide:(0:Int)<=1/\(1:Int)<=63),⟨h0,h1⟩,(by decide:(0:Int)<=0/\(0:Int)<=1073741824),(by decide:(0:Int)<=0/\(0:Int)<=3),(by decide:(0:Int)<=0/\(0:Int)<=255),(by decide:(0:Int)<=0/\(0:Int)<=1099511627776),(by decide:(0:Int)<=0/\(0:Int)<=1099511627776),(by decide:(0:Int)<=0/\(0:Int)<=1073741824),(by decide:(0:Int)<=0/\(0:Int)<=1073741824),⟨by show 0<=16384;decide,(fun r hr=>by cases hr)⟩,spansOk.nil,rfl⟩
def recC (k:Nat):Cl:={kind:=0,recs:= [fF k]}
theorem recC_ok {k:Nat} (hk:k<=100):(recC k).Ok:=
 ⟨(by decide:(0:Int)<=0/\(0:Int)<=5),(by decide:(0:Int)<=0/\(0:Int)<=1073741824),(by decide:(0:Int)<=0/\(0:Int)<=1073741824),(by decide:(0:Int)<=0/\(0:Int)<=1073741824),(by decide:(0:Int)<=0/\(0:Int)<=1099511627776),spansOk.nil,⟨by show 1<=16384;decide,fun r hr=>by rw [List.mem_singleton.1 hr];exact fF_valid hk⟩⟩
theorem recC_len {k:Nat} (hk:k<=100):(recC k).b.length<=244:=Cl.b_len1 (recC_ok hk) rfl (Nat.le_refl 1) (fun r hr=>by rw [List.mem_singleton.1 hr];show 0<=40;decide)
def stP (p:Int):Stt:={promise:=p,inc:=1,whole:=true}
def hN (k:Nat):Ht:={group:=0,l:=rowN fF k}
def updF {α:Type} (f:Nat->α) (n:Nat) (x:α):Nat->α:=fun i=>if i=n then x else f i
theorem updF_eq {α:Type} (f:Nat->α) (n:Nat) (x:α):updF f n x n=x:=if_pos rfl
theorem updF_ne {α:Type} (f:Nat->α) {n i:Nat} (x:α) (h:i≠n):updF f n x i=f i:=if_neg h
structure Hist (n:Nat) (P:Nat->Int) (J:Nat->Nat) (C:Nat->Cl):Prop where
 n1:1<=n
 c0:C 0=bornC 1 true
 p1:P 1=0
 j1:J 1=0
 step: ∀i,1<=i->i<n->(C i=promC (P (i+1))/\0<=P (i+1)/\P (i+1)<=8/\J (i+1)=J i)\/(C i=recC (J i)/\J (i+1)=J i+1/\P (i+1)=P i)
section
variable {n:Nat} {P:Nat->Int} {J:Nat->Nat} {C:Nat->Cl}
theorem Hist.le (h:Hist n P J C): ∀i,1<=i->i<=n->J i+1<=i/\0<=P i
 |0,h1,_=>by omega
 |1,_,_=>by rw [h.j1,h.p1];omega
 |i+2,_,h2=>by
  have ih:=h.le (i+1) (by omega) (by omega);rcases h.step (i+1) (by omega) (by omega) with ⟨_,a,_,b⟩|⟨_,b,a⟩
  ·rw [show i+2=i+1+1 from rfl,b];exact ⟨by omega,a⟩
  rw [show i+2=i+1+1 from rfl,b,a];exact ⟨by omega,ih.2⟩
theorem Hist.prom (h:Hist n P J C) {e:Int} (h0:0<=e) (h1:e<=8):Hist (n+1) (updF P (n+1) e) (updF J (n+1) (J n)) (updF C n (promC e)):=by
 have n1:=h.n1;refine ⟨by omega,by rw [updF_ne _ _ (by omega)];exact h.c0,by rw [updF_ne _ _ (by omega)];exact h.p1,by rw [updF_ne _ _ (by omega)];exact h.j1,fun i h2 h3=> ?_⟩;by_cases q:i=n
 ·subst q;rw [updF_eq,updF_eq,updF_eq,updF_ne J _ (by omega)];exact .inl ⟨rfl,h0,h1,rfl⟩
 rw [updF_ne C _ q,updF_ne P _ (by omega),updF_ne J _ (by omega),updF_ne J _ (by omega),updF_ne P _ (by omega)];exact h.step i h2 (by omega)
theorem Hist.recd (h:Hist n P J C):Hist (n+1) (updF P (n+1) (P n)) (updF J (n+1) (J n+1)) (updF C n (recC (J n))):=by
 have n1:=h.n1;refine ⟨by omega,by rw [updF_ne _ _ (by omega)];exact h.c0,by rw [updF_ne _ _ (by omega)];exact h.p1,by rw [updF_ne _ _ (by omega)];exact h.j1,fun i h2 h3=> ?_⟩;by_cases q:i=n
 ·subst q;rw [updF_eq,updF_eq,updF_eq,updF_ne J _ (by omega),updF_ne P _ (by omega)];exact .inr ⟨rfl,rfl,rfl⟩
 rw [updF_ne C _ q,updF_ne P _ (by omega),updF_ne J _ (by omega),updF_ne J _ (by omega),updF_ne P _ (by omega)];exact h.step i h2 (by omega)
def blkC (n:Nat) (c:Cl):Bs:=le4 n++(le4 0++(le4 1++c.b))
structure DkH (d:Dk) (n t:Nat) (C:Nat->Cl):Prop where
 pe:d.pe=fun _=>none
 top:d.top<=(n:Nat)
 blocks:d.blocks=4096
 calls:0<=d.calls/\d.calls<=2*(n:Nat)+(t:Nat)
 arm:d.arm=0
 at_: ∀i,i<n->d.rd (i:Nat)=some (blkC i (C i))
 none_: ∀i:Nat,n<=i->d.rd (i:Nat)=none
variable {d:Dk} {t:Nat}
theorem DkH.more (h:DkH d n t C):DkH d n (t+1) C:=⟨h.pe,h.top,h.blocks,by have:=h.calls;omega,h.arm,h.at_,h.none_⟩
theorem DkH.lay (h:DkH d n t C) (a:Int) (c:Cl):DkH {(({d with arm:=a}:Dk).wr (n:Nat) (blkC n c)).sync with arm:=0} (n+1) (t+1) (updF C n c):=by
 have hrd:=Dk.rd_wr (d:={d with arm:=a}) h.pe ((n:Nat):Int) (blkC n c);have ht:=h.top;have hc:=h.calls;refine ⟨rfl,by show max d.top ((n:Int)+1)<=((n+1:Nat):Int);omega,h.blocks,by show 0<=d.calls+1+1/\d.calls+1+1<=2*((n+1:Nat):Int)+((t+1:Nat):Int);omega,rfl,fun i hi=> ?_,fun i hi=> ?_⟩
 ·show (({d with arm:=a}:Dk).wr (n:Nat) (blkC n c)).sync.rd (i:Nat)=_;rw [hrd];by_cases q:i=n
  ·subst q;rw [if_pos rfl,updF_eq]
  rw [if_neg (by omega),updF_ne _ _ q];exact h.at_ i (by omega)
 show (({d with arm:=a}:Dk).wr (n:Nat) (blkC n c)).sync.rd (i:Nat)=_;rw [hrd,if_neg (by omega)];exact h.none_ i (by omega)
theorem DkH.back (h:DkH d n t C) {c:Cl} {o:Option (Int×Bs)} (ho:o=none\/o=some (((n:Nat):Int),blkC n c)) {cx:Int} (h0:0<=cx) (h1:cx<=d.calls+1) (keep:Bool) :
  DkH (d.back o keep cx) n (t+1) C\/DkH (d.back o keep cx) (n+1) (t+1) (updF C n c):=by
 have ht:=h.top;have hc:=h.calls;have hpe:=h.pe;have hrd: ∀i,d.rd i=d.sy i:=fun i=>by unfold Dk.rd;rw [hpe]
 have hn:DkH {d with pe:=fun _=>none,calls:=cx,arm:=0} n (t+1) C:=
  ⟨rfl,ht,h.blocks,by show 0<=cx/\cx<=_;omega,rfl,fun i hi=>by have:=h.at_ i hi;rw [hrd] at this;exact this,fun i hi=>by have:=h.none_ i hi;rw [hrd] at this;exact this⟩
 rcases ho with rfl|rfl
 ·cases keep<;>exact .inl hn
 cases keep
 ·exact .inl hn
 refine .inr ⟨rfl,by show max d.top ((n:Int)+1)<=((n+1:Nat):Int);omega,h.blocks,by show 0<=cx/\cx<=_;omega,rfl,fun i hi=> ?_,fun i hi=> ?_⟩
 ·show (if ((i:Nat):Int)=(n:Nat) then some (blkC n c) else d.sy (i:Nat))=_;by_cases q:i=n
  ·subst q;rw [if_pos rfl,updF_eq]
  rw [if_neg (by omega),updF_ne _ _ q,<-hrd];exact h.at_ i (by omega)
 show (if ((i:Nat):Int)=(n:Nat) then some (blkC n c) else d.sy (i:Nat))=_;rw [if_neg (by omega),<-hrd];exact h.none_ i (by omega)
def lsH (d:Dk) (P:Nat->Int) (J:Nat->Nat) (i:Nat):Lg:=if i=0 then L0 d 0 else {d:=d,s:=stP (P i),h:=hN (J i),end_:=i,calls:=i}
theorem lsH_pos {P:Nat->Int} {J:Nat->Nat} {i:Nat} (h:1<=i):lsH d P J i={d:=d,s:=stP (P i),h:=hN (J i),end_:=i,calls:=i}:=if_neg (by omega)
structure FallI (L:Lg) (n t:Nat) (P:Nat->Int) (J:Nat->Nat) (C:Nat->Cl):Prop where
 hist:Hist n P J C
 dk:DkH L.d n t C
 s:L.s=stP (P n)
 gr:L.h.group=0
 spans:L.h.spans= []
 l:L.h.l=rowN fF (J n)
 known:L.h.KnownOk
 fin:L.end_=n
 calls:L.calls=n
 n1:n<=t+1
theorem FallI.goodA {L:Lg} (h:FallI L n t P J C) (ht:t<=100) {a:Int} (ha:a=0\/3<=a) (ha1:a<=1000):(L.armed a).Good:=by have hn:=h.n1;have h1:=h.dk.top;have h2:=h.dk.calls;have h3:=(h.hist.le n h.hist.n1 (Nat.le_refl _)).1;refine ⟨h.dk.pe,by show L.d.top<=((L.end_:Nat):Int);rw [h.fin];exact h1,by show L.d.blocks<=16384;rw [h.dk.blocks];decide,by show 0<=L.d.calls/\L.d.calls<=4*((L.calls:Nat):Int)+1000;rw [h.calls];omega,by show L.calls<=100000;rw [h.calls];omega,by show L.end_=L.calls;rw [h.fin,h.calls],⟨by show L.s.spans.length<=64;rw [h.s];exact Nat.zero_le _,by show L.h.spans.length<=64;rw [h.spans];exact Nat.zero_le _⟩,by show L.h.l.length<=16384;rw [h.l,rowN_len];omega,ha,ha1⟩
theorem FallI.good {L:Lg} (h:FallI L n t P J C) (ht:t<=100):L.Good:=by have:=h.goodA ht (a:=0) (.inl rfl) (by decide);rwa [Lg.armed_zero h.dk.arm] at this
theorem Hist.ls_good (h:Hist n P J C) (hd:DkH d n t C) (hn:n<=t+1):FallI (lsH d P J n) n t P J C:=by rw [lsH_pos h.n1];exact ⟨h,hd,rfl,rfl,rfl,rfl,(fun q=>by cases q),rfl,rfl,hn⟩
theorem Hist.plays {ad:Nat->Addr} (h:Hist n P J C) (hd:DkH d n t C) (hn:n<=t+1) (ht:t<=100):Plays ad d 0 n (lsH d P J) C:=by
 have hb:=hd.blocks;have hle:=h.le;have hpl: ∀i,1<=i->i<n->(C i).Ok/\(C i).b.length<=244/\ReadOk ad (C i)/\DoOk (stP (P i)) (hN (J i)) (C i) (stP (P (i+1))) (hN (J (i+1))):=fun i h1 h2=>by
  have hj:=(hle i h1 (by omega)).1;rcases h.step i h1 h2 with ⟨e,a,b,c⟩|⟨e,c,a⟩
  ·rw [e,c];exact ⟨promC_ok a (by omega),promC_len a (by omega),read_birth (promC_ok a (by omega)) rfl rfl,do_promise (x:=stP (P i)) (h:=hN (J i)) (c:=promC (P (i+1))) rfl rfl⟩
  rw [e,c,a];obtain ⟨a1,a2⟩:=addN (h:=hN (J i)) fF_num rfl rfl;have hf:(hN (J i)).FitsAll [fF (J i)]:=⟨⟨fF_valid (by omega),rfl,by show (rowN fF (J i)).length<16384;rw [rowN_len];omega,rowN_rises fF_num (J i),fun x hx e=>by
   obtain ⟨k,hk,rfl⟩:=rowN_mem.1 (show x∈rowN fF (J i) from hx);rw [fF_num.lsn,fF_num.lsn] at e;have:k=J i:=by omega
   rw [this]⟩,trivial⟩
  have hD:DoOk (stP (P i)) (hN (J i)) (recC (J i)) (stP (P i)) ((hN (J i)).addAll [fF (J i)]):=do_recs (c:=recC (J i)) rfl hf (by show 1<=16384;decide) (Nat.zero_le _);rw [show (hN (J i)).addAll [fF (J i)]=(hN (J i)).add (fF (J i)) from rfl,a2] at hD;exact ⟨recC_ok (by omega),recC_len (by omega),read_recs (recC_ok (by omega)) rfl (Nat.le_trans (recC_len (by omega)) (by decide)), @hD⟩
 have hl: ∀i,(lsH d P J i).d=d/\(lsH d P J i).end_=i/\(lsH d P J i).calls=i:=fun i=>by
  by_cases q:i=0
  ·subst q;exact ⟨rfl,rfl,rfl⟩
  rw [lsH_pos (by omega)];exact ⟨rfl,rfl,rfl⟩
 refine ⟨rfl,fun i hi=>⟨by rw [(hl i).2.2];omega,by rw [(hl i).2.1,(hl i).2.2]⟩,(h.ls_good hd hn).good ht,fun i hi=>(hl i).1,fun i hi=>(hl i).2.1,fun i hi=>hd.at_ i hi,fun i hi=> ?_,fun i hi=> ?_,fun i hi=> ?_, .inr ⟨by omega,hd.none_ n (Nat.le_refl _)⟩,by omega,by omega⟩
 ·by_cases q:i=0
  ·subst q;rw [h.c0];exact bornC_len (by decide) (by decide)
  exact (hpl i (by omega) hi).2.1
 ·by_cases q:i=0
  ·subst q;rw [h.c0];exact read_birth (bornC_ok (by decide) (by decide)) rfl rfl
  exact (hpl i (by omega) hi).2.2.1
 by_cases q:i=0
 ·subst q;have e:(lsH d P J (0+1)).s={(lsH d P J 0).s with inc:=(1:Int),whole:=true}/\(lsH d P J (0+1)).h=(lsH d P J 0).h:=by
   rw [lsH_pos (i:=0+1) (by omega),h.p1,h.j1];exact ⟨rfl,rfl⟩
  rw [e.1,e.2,h.c0];exact do_birth (c:=bornC 1 true) rfl rfl
 rw [lsH_pos (by omega),lsH_pos (i:=i+1) (by omega)];exact (hpl i (by omega) hi).2.2.2
end
end Go.Proofs.YtikllmoofngjnaaGreatDoor.B
