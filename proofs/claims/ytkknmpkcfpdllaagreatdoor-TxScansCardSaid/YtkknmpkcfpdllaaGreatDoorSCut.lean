/- A program logic over the model: what is owned, what is written no more, and one lemma for each kind of step. -/
import Derived.Test.YtkknmpkcfpdllaaGreatDoorTTx1
import Derived.Test.YtkknmpkcfpdllaaGreatDoorTTreeLaid
import Derived.Test.YtkknmpkcfpdllaaGreatDoorTValues
import Derived.Test.YtkknmpkcfpdllaaGreatDoorTTxRel
import Derived.Test.YtkknmpkcfpdllaaGreatDoorTTx3
import Derived.Test.YtkknmpkcfpdllaaGreatDoorTFacts
import Derived.Test.YtkknmpkcfpdllaaGreatDoorTTree7
namespace Go.Proofs.YtkknmpkcfpdllaaGreatDoor.B
open Go
set_option linter.unusedVariables false
set_option linter.unusedSimpArgs false
set_option linter.unnecessarySimpa false
variable {B:Nat}
theorem HoldsA.from_ {b:Bt} {K:Nat} {kv:Ens} {key:Bs} (h:HoldsA B b K kv) (ha:AllOk b) (above:Bool) (hk:key.length<=32):b.from_ key above= .ok (fromKv key above kv):=by have hso:=h.sorted;obtain ⟨n,av,fl,ids,h⟩:=h;have hn:=h.lvl;have hc:=h.c;obtain ⟨l',ks',y,kvL,kvR,m,hd,rfl,w1,w2,w3,w4,w5⟩:=down_sides (key:=key) h.g.i n 17 [] [] (by omega) h.s (InR.all key);have hlast:lastPg ([]++l'++ [y])=y:=lastPg_end _ _;have hsR:Sorted kvR:=(List.pairwise_append.1 hso).2.1;rw [Bt.from_,if_neg (by omega),Bt.down,hd];simp only [hlast];rw [List.append_assoc,fromKv_left _ w2];exact fromF_law ha m 256 (by omega) w4 w1 w3 hsR
theorem FreeC.frameL {V V':Vw}: ∀(fr:List Int) {f:Int},(∀j∈fr,(V' j).map noL=(V j).map noL)->FreeC V f fr->FreeC V' f fr
 | [],_,_,h=>h
 |j::r,_,hf,⟨h1,h2,h3,y,h4,h5,h6,h7⟩=>by
  obtain ⟨z,hz,e⟩:=map_noL (hf j (by simp)) h4;obtain ⟨_,e1,e2,e3⟩:=noL_eq e;exact ⟨h1,h2,h3,z,hz,by rw [e1];exact h5,by rw [e3];exact h6,by rw [e2];exact FreeC.frameL r (fun k hk=>hf k (by simp [hk])) h7⟩
theorem pw_noL {V V':Vw} {j:Int} (h:(V' j).map noL=(V j).map noL):pw V' j=pw V j:=by
 cases hv:V j with
 |none=>
  rw [hv] at h;have:V' j=none:=by simpa using h
  rw [pw,pw,hv,this]
 |some x=>
  obtain ⟨z,hz,e⟩:=map_noL h hv;rw [pw_some hv,pw_some hz,(noL_eq e).2.2.2]
theorem HoldsA.laid {b b':Bt} {K:Nat} {kv:Ens} (h:HoldsA B b K kv) (hi:IdsOk b'.view) (hv: ∀id,0<=id->id<256->(b'.view id).map noL=(b.view id).map noL):HoldsA B b' K kv:=by
 obtain ⟨n,av,fl,ids,h⟩:=h;have hids: ∀j∈ids,(b'.view j).map noL=(b.view j).map noL:=fun j hj=>by have:=h.g.rgi hj;exact hv j this.1 this.2.1
 have hback: ∀j∈ids,∀x,b'.view j=some x-> ∃y,b.view j=some y/\y.ents=x.ents/\y.level=x.level:=fun j hj x hx=>by
  obtain ⟨y,hy,e⟩:=map_noL (hids j hj).symm hx;exact ⟨y,hy,(noL_eq e).2.2.2,(noL_eq e).2.1⟩
 have h0:(0:Int)∈ids:=by obtain ⟨x,js,_,_,_,e⟩:=h.id0;rw [e];simp
 refine ⟨n,av,fl,ids,⟨⟨?_,hi,h.g.nd,h.g.rg,h.g.a1⟩,SubT.frameL n hids h.s, ?_,h.c, ?_, ?_⟩⟩
 ·obtain ⟨u,f,fr,⟨⟨x,hx,he⟩,c,u1,u2⟩,hav⟩:=h.g.m;obtain ⟨y,hy,e⟩:=map_noL (hv 1 (by omega) (by omega)) hx;exact ⟨u,f,fr,⟨⟨y,hy,by rw [(noL_eq e).2.2.2];exact he⟩,c.frameL fr (fun j hj=>by have:=(FreeC.rg fr c).1 j hj;exact hv j (by omega) this.2),u1,u2⟩,hav⟩
 ·intro j hj hne x hx hl2;obtain ⟨y,hy,e,e2⟩:=hback j hj x hx;rw [<-e];exact h.o j hj hne y hy (by omega)
 ·intro x hx hn;obtain ⟨y,hy,e,_⟩:=hback 0 h0 x hx;rw [<-e];exact h.r y hy hn
 intro x hx;obtain ⟨y,hy,e,_⟩:=hback 0 h0 x hx;have h1:=h.w y hy;have h2:wt b'.view ids.tail=wt b.view ids.tail:=by
  have: ∀l:List Int,(∀j∈l,j∈ids)->wt b'.view l=wt b.view l:=by
   intro l;induction l with
   |nil=>intro _;rfl
   |cons j l ih=>intro hl;rw [wt_cons,wt_cons,ih (fun k hk=>hl k (by simp [hk])),pw_noL (hids j (hl j (by simp)))]
  exact this _ (fun j hj=>List.mem_of_mem_tail hj)
 rw [h2,<-e];exact h1
def PHoldsA (B:Nat) (P:Pl) (n:Int) (K:Nat) (kv:Ens):Prop:=PlOk P n/\HoldsA B (newBt P) K kv
theorem laid_holdsA {P:Pl} {n:Int} {b:Bt} {K:Nat} {kv:Ens} {k:Nat} (hP:PlOk P n) (h1:1<=n) (hr:Runs (newBt P) b k) (hk:n+k<=1099511627777) (hb:HoldsA B b K kv) :
  b.recs.length<=k/\ ∃P',laidP P b.recs n=some (P',n+b.recs.length)/\PHoldsA B P' (n+b.recs.length) K kv:=by
 obtain ⟨rs,r1,r2,r3⟩:=hr;have e0:(newBt P).recs.length=0:=rfl;obtain ⟨⟨P',l1,l2,l3⟩,e1⟩:=LInv.all h1 rs (LInv.new hP) (AllOk.new hP) (by rw [e0];omega) r2 r3;refine ⟨by omega,P',l1,l2,hb.laid (IdsOk.new l2) (fun id i1 i2=> ?_)⟩;rw [newBt_view i1 i2];exact l3 id i1 i2
theorem upTo_nodup (u:Nat):(upTo u).Nodup:=by unfold upTo;refine List.Pairwise.map _ (fun a b h=> ?_) (List.nodup_range' (step:=1) (by omega));simp only [ne_eq] at h ⊢;omega
theorem upTo_len (u:Nat):(upTo u).length=256 - u:=by simp [upTo]
theorem E0_holdsA:PHoldsA B E0 4 0 []:=by
 refine ⟨E0_ok,0,upTo 2,0, [0],⟨⟨?_,IdsOk.new E0_ok, ?_, ?_, ?_⟩, ?_, ?_,by rw [upTo_len];rfl, ?_, ?_⟩⟩
 ·obtain ⟨x,h1,h2⟩:=E0_1;exact ⟨2,0, [],⟨⟨x,by rw [newBt_view (by omega) (by omega)];exact h1,h2⟩,rfl,by omega,by omega⟩,rfl, .inr rfl⟩
 ·refine List.nodup_cons.2 ⟨?_,upTo_nodup 2⟩;show (0:Int) ∉ upTo 2;rw [mem_upTo];omega
 ·intro j hj;rcases List.mem_cons.1 hj with e|e
  ·omega
  have:j∈upTo 2:=e;rw [mem_upTo] at this;omega
 ·intro j hj;rw [mem_upTo] at hj;omega
 ·obtain ⟨x,h1,h2,h3,h4⟩:=E0_0;exact ⟨rfl,rfl,x,by rw [newBt_view (by omega) (by omega)];exact h1,h2,h3,h4,by simp,by simp [Sorted],by simp⟩
 ·intro j hj hne;simp at hj;exact absurd hj hne
 ·intro x _ h;omega
 intro x hx;obtain ⟨y,h1,_,_,h4⟩:=E0_0;rw [newBt_view (by omega) (by omega),h1] at hx;injection hx with hx;subst hx
 simp [h4,wt]
open Go Go.Proofs
set_option maxRecDepth 20000
set_option maxHeartbeats 8000000
variable {B:Nat}
variable {B:Nat}
def cb (C:Int->Option Pg) (b:Bt):Bt:={b with pool:=C}
def cp {α:Type} (C:Int->Option Pg) (p:α×Bt):α×Bt:=(p.1,cb C p.2)
def cq {α:Type} (C:Int->Option Pg) (p:Bt×α):Bt×α:=(cb C p.1,p.2)
theorem BPut_cold {w0 w:World} {D:Sto} {ss:List Seg} {sb sp:Seg} {vb vp:Value} {b b':Bt} {P:Pl} {S:List Int} (I:Inv w0 D (sb::sp::ss) w) {ad:Nat->Addr} (hS:TSents D ad) (hB:BatchS D vb vp b sb) (hP:PoolS D vp P sp) (hpool:b.pool=P.f) {vk vv:Value} {key val:Bs} (hk:RB D vk key) (hv:RB D vv val) (hlen:b.recs.length<=1000000000 - 8000)
  (hok:b.put key val= .ok b'\/ ∃j,b.put key val= .fail 113 (some j)/\P.f j=none/\j∈S) :
  Calls Tryz.prog 21 #[vb,vk,vv] w (Ret fun r w'=>(r= .nilIface/\ ∃D' sb' sp',Le D D'/\BatchS D' vb vp b' sb'/\PoolS D' vp P sp'/\Inv w0 D' (sb'::sp'::ss) w')\/
   ∃j D' sb' sp',P.f j=none/\j∈S/\r=errV ad 113/\Le D D'/\BatchS D' vb vp b sb'/\PoolS D' vp (P.want j) sp'/\Inv w0 D' (sb'::sp'::ss) w'):=by
 refine (BPut_spec I.merge hS (TreeS.join hB hP hpool) hk hv hlen).mono fun e w' h=> ?_;obtain ⟨r,he,h⟩:=h;refine ⟨r,he, ?_⟩;rcases h with ⟨b1,h1,rfl,D',s',hD,hT,hI'⟩|⟨c',o,h1,rfl,D',s',hD,hT,hI'⟩
 ·rcases hok with hok|⟨j,hok,_⟩
  ·rw [hok] at h1;injection h1 with h1;subst h1
   obtain ⟨sb',sp',rfl,hB',hP',_⟩:=hT;exact .inl ⟨rfl,D',sb',sp',hD,hB',hP',hI'.parted⟩
  rw [hok] at h1;cases h1
 rcases hok with hok|⟨j,hok,h2,h3⟩
 ·rw [hok] at h1;cases h1
 rw [hok] at h1;injection h1 with h1 h4;subst h1;subst h4
 obtain ⟨sb',sp',rfl,hB',hP',_⟩:=hT;exact .inr ⟨j,D',sb',sp',h2,h3,rfl,hD,hB',hP',hI'.parted⟩
theorem note_spec {w0 w:World} {D:Sto} {ss:List Seg} {sb sp:Seg} {vb vp:Value} {b b':Bt} {P:Pl} {S:List Int} (I:Inv w0 D (sb::sp::ss) w) {ad:Nat->Addr} (hS:TSents D ad) (hB:BatchS D vb vp b sb) (hP:PoolS D vp P sp) (hpool:b.pool=P.f) {e:Ent} {ku vu vd:Value} (hku:RB D ku e.key) (hvu:RB D vu e.value) (hok:e.Ok) (hkr:1<=e.tx/\e.tx<=2251799813685248/\0<=e.n/\e.n<12) (hvl:e.value.length<=100000) (hlen:b.recs.length<=1000000000 - 8000) (hput:b.put (keyL e.tx e.n) e.enc= .ok b'\/ ∃j,b.put (keyL e.tx e.n) e.enc= .fail 113 (some j)/\P.f j=none/\j∈S) :
  Calls Tryz.prog 156 #[vd,vb, .agg #[.int .i64 e.tx, .int .i64 e.n,ku, .bool e.had,vu]] w (Ret fun r w'=>(r= .nilIface/\ ∃D' sb' sp',Le D D'/\BatchS D' vb vp b' sb'/\PoolS D' vp P sp'/\Inv w0 D' (sb'::sp'::ss) w')\/(∃j D' sb' sp',P.f j=none/\j∈S/\r=errV ad 113/\Le D D'/\BatchS D' vb vp b sb'/\PoolS D' vp (P.want j) sp'/\Inv w0 D' (sb'::sp'::ss) w')):=by
 obtain ⟨bbn,hbb⟩:=BatchS.ptr hB;subst hbb;obtain ⟨A1,c2,rfl,_⟩:=hku.slice;obtain ⟨A3,c4,rfl,_⟩:=hvu.slice;refine enter (N:=33) Tryz.func156 rfl rfl rfl ?_;intro a Z;refine wsr ?_;refine l_step rfl (f_box (cs:= #[_,_,_,_,_]) Z I rfl rfl rfl rfl rfl ?_);clear I Z a w;intro a b5 w Z I;refine go 7 Z I ?_;clear Z a;intro a Z;refine l_step rfl (o_call Z rfl rfl rfl rfl ent_19 (Key_spec I hS.g105 _ _) ?_);clear I Z a;rintro r w h a Z;rcases h with ⟨v6,D7,hr8,rfl,hD9,I,hb10⟩|⟨hr8,rfl,I⟩
 ·obtain ⟨A11,c12,rfl,_⟩:=hb10.slice;refine go 16 Z I ?_;clear Z a;intro a Z;refine l_step rfl (o_call Z rfl rfl rfl rfl ent_20 (UBytes_spec I (hS.mono hD9).g105 _ _ _ (hku.mono hD9) (hvu.mono hD9) (by omega)) ?_);clear I Z a;rintro r w ⟨D13,hD14,h⟩ a Z;rcases h with ⟨v15,s16,hok9,rfl,I,hO17⟩|⟨hok9,rfl,I⟩
  case inr=>exact absurd hok hok9
  obtain ⟨D18,hD19,hIa,hb20⟩:=OB.data ⟨_,hO17,I⟩ (enc_lt (hku.mono hD9).lt (hvu.mono hD9).lt);replace I:=hIa;clear hIa;replace hb20:RB D18 _ e.enc:=hb20;obtain ⟨A21,c22,rfl,_⟩:=hb20.slice;refine go 18 Z I ?_;clear Z a;intro a Z;replace I:=I.bring 2;replace I:=I.bring 2;refine l_step rfl (o_call Z rfl rfl rfl rfl ent_21 (BPut_cold I (hS.mono ((hD9.trans hD14).trans hD19)) (hB.mono ((hD9.trans hD14).trans hD19)) (hP.mono ((hD9.trans hD14).trans hD19)) hpool (hb10.mono (hD14.trans hD19)) hb20 hlen hput) ?_);clear I Z a;rintro r w h a Z;rcases h with ⟨rfl,D23,sb24,sp25,hD26,hB27,hP28,I⟩|⟨j9,D23,sb24,sp25,hj1,hj2,rfl,hD26,hB27,hP28,I⟩
  ·refine go 3 Z I ?_;clear Z a;intro a Z;refine rt1 Z ?_;replace I:=I.erase 2;exact .inl ⟨rfl,D23,_,_,(((hD9.trans hD14).trans hD19).trans hD26),hB27,hP28,I⟩
  refine go 3 Z I ?_;clear Z a;intro a Z;refine rt1 Z ?_;replace I:=I.erase 2;exact .inr ⟨j9,D23,_,_,hj1,hj2,rfl,(((hD9.trans hD14).trans hD19).trans hD26),hB27,hP28,I⟩
 exfalso;exact hr8 hkr
theorem plan_spec {w0 w:World} {D:Sto} {ss:List Seg} {s sb sp:Seg} {vd vb vp:Value} {fd:FuncId} {us:Array Value} {d:Db} {b:Bt} {P:Pl} (I:Inv w0 D (s::sb::sp::ss) w) {ad:Nat->Addr} (hS:TSents D ad) (hd:DbS D vd vp d s) (hdb:DbOk d) (hB:BatchS D vb vp b sb) (hP:PoolS D vp P sp) (hpool:b.pool=P.f) (hlen:b.recs.length<=1000000000) :
  Calls Tryz.prog 157 #[vd,vb, .func (.func fd) #[] us] w (Ret fun r w'=> ∃D' vr s' sb' sp',Le D D'/\r= .agg #[vr, .int .i64 (d.seq+1), .func (.func fd) #[] us]/\DR 10 RcR D' vr b.recs/\DbS D' vd vp {d with seq:=d.seq+1} s'/\BatchS D' vb vp b sb'/\PoolS D' vp P sp'/\Inv w0 D' (s'::sb'::sp'::ss) w'):=by
 obtain ⟨bbn,hbb⟩:=BatchS.ptr hB;subst hbb;obtain ⟨bd,bl,esl,clkl,os,rfl,rfl,hml,hos⟩:=hd;obtain ⟨e0,e1,b0,b1,s0,s1,hids,hlen⟩:=hdb;replace I:=I.open_db;refine enter (N:=26) Tryz.func157 rfl rfl rfl ?_;intro a Z;refine wsr ?_;refine l_step rfl (f_alloc (cs:= #[.slice none 0 0, .int .i64 0, .nilFunc]) Z I rfl rfl rfl zer_93 rfl ?_);clear I Z a w;intro a b1 w Z I;refine go 3 Z I ?_;clear Z a;intro a Z;refine zs Z (p_nilCheck rfl) ?_;clear Z a;intro a Z;refine go 2 Z I ?_;clear Z a;intro a Z;refine zs Z (p_arith (z:=d.seq+1) rfl rfl (add_z rfl (by omega) (by omega))) ?_;clear Z a;intro a Z;refine zs Z (p_nilCheck rfl) ?_;clear Z a;intro a Z;refine zs Z (p_fieldAddr (m:=4) rfl fo_175_4 rfl) ?_;clear Z a;intro a Z;refine l_step rfl (f_store (l:= [_,_,_,_,_]) (ss':=_::_::_) 1 Z I rfl rfl rfl rfl rfl sz_3 (by simp [Value.cells,Value.oneCell',pgCells,rcCells,zPg,errV,zUe]) rfl rfl rfl ?_);clear I w;intro w I;refine go 7 Z I ?_;clear Z a;intro a Z;refine zs Z (p_eq rfl rfl (g_none rfl) (e_ptrNil Tryz.underlying31 rfl) rfl rfl) ?_;clear Z a;intro a Z;refine go 4 Z I ?_;clear Z a;intro a Z;replace I:=I.bring 5;replace I:=I.bring 5;refine l_step rfl (o_call Z rfl rfl rfl rfl ent_24 (Redo_ok I hS hB hP hpool (by omega)) ?_);clear I Z a;rintro r w ⟨D2,sb3,sp4,hD5,hL6,hB7,hP8,I⟩ a Z;obtain ⟨A9,c10,rfl,_⟩:=hL6.slice;refine go 5 Z I ?_;clear Z a;intro a Z;refine zs Z (p_nilCheck rfl) ?_;clear Z a;intro a Z;refine go 3 Z I ?_;clear Z a;intro a Z;refine zs Z (f_build (vs:= [(0,_),(1,_),(2,_)]) (l:= [_,_,_]) rfl built_93 rfl) ?_;clear Z a;intro a Z;refine l_step rfl (f_store (l:= [_,_,_]) (ss':=_::_::_::_) 2 Z I rfl rfl rfl rfl rfl sz_93 (by simp [Value.cells,Value.oneCell',pgCells,rcCells,zPg,errV,zUe]) rfl rfl rfl ?_);clear I w;intro w I;refine gc 2 Z ?_;refine retc1 rfl Z rfl agg_93 (I.seg 2 rfl) rfl ?_;replace I:=I.erase 2;replace I:=I.bring 1;replace I:=I.bring 1;replace I:=I.bring 4;replace I:=I.bring 4;replace I:=I.bring 4;exact ⟨D2,_,_,_,_,hD5,rfl,hL6,⟨bd,bl,_,_,os,rfl,rfl,hml,hos.mono hD5⟩,hB7,hP8,I.shut_db⟩
variable {B:Nat}
def usrOf (e:Bs×Bs):Bs×Bs:=(107::e.1,e.2)
def kvOf (U:Ens) (es:List Ent):Ens:=U.map usrOf++es.map ueOf
theorem ltB_same (x:Nat) (a b:Bs):ltB (x::a) (x::b)=ltB a b:=by simp [ltB]
theorem und_gt (key:Bs) (es:List Ent): ∀e∈es.map ueOf,ltB (107::key) e.1=true:=fun e he=>by
 obtain ⟨b,_,rfl⟩:=List.mem_map.1 he;exact ltB_user key _ _
theorem usr_lt (U:Ens) (t n:Int): ∀e∈U.map usrOf,ltB e.1 (keyL t n)=true:=fun e he=>by
 obtain ⟨b,_,rfl⟩:=List.mem_map.1 he;exact ltB_user _ _ _
theorem look_usrs (u:Bs): ∀U:Ens,lookKv (U.map usrOf) (107::u)=lookKv U u
 | []=>rfl
 |e::r=>by
  have ih:=look_usrs u r;show (if ltB (107::e.1) (107::u) then lookKv (r.map usrOf) (107::u) else if 107::e.1=107::u then some e.2 else none)=(if ltB e.1 u then lookKv r u else if e.1=u then some e.2 else none);rw [ltB_same,ih];simp only [List.cons.injEq,true_and]
theorem kv_look (U:Ens) (es:List Ent) (u:Bs):lookKv (kvOf U es) (107::u)=lookKv U u:=by rw [kvOf,lookKv_right (und_gt u es),look_usrs]
theorem ins_usrs (u v:Bs): ∀U:Ens,insKv (U.map usrOf) (107::u) v=(insKv U u v).map usrOf
 | []=>rfl
 |e::r=>by
  have ih:=ins_usrs u v r;show (if ltB (107::e.1) (107::u) then usrOf e::insKv (r.map usrOf) (107::u) v else if 107::e.1=107::u then (107::e.1,v)::r.map usrOf else (107::u,v)::usrOf e::r.map usrOf)=(if ltB e.1 u then e::insKv r u v else if e.1=u then (e.1,v)::r else (u,v)::e::r).map usrOf;rw [ltB_same,ih];simp only [List.cons.injEq,true_and];split
  ·rfl
  split<;>rfl
theorem kv_ins (U:Ens) (es:List Ent) (u v:Bs):insKv (kvOf U es) (107::u) v=kvOf (insKv U u v) es:=by rw [kvOf,insKv_right (und_gt u es),ins_usrs,kvOf]
theorem del_usrs (u:Bs) (U:Ens):delKv (U.map usrOf) (107::u)=(delKv U u).map usrOf:=by rw [delKv,delKv,List.filter_map];congr 1;apply List.filter_congr;intro e _;simp [usrOf]
theorem kv_del (U:Ens) (es:List Ent) (u:Bs):delKv (kvOf U es) (107::u)=kvOf (delKv U u) es:=by rw [kvOf,delKv_right (und_gt u es),del_usrs,kvOf]
theorem kv_note {U:Ens} {es:List Ent} {e:Ent} (he:e.Ok) (h: ∀a∈es,a.Ok):insKv (kvOf U es) (keyL e.tx e.n) e.enc=kvOf U (withE es e):=by rw [kvOf,insKv_left _ (usr_lt U _ _),<-with_ins he es h,kvOf]
theorem kv_forget {U:Ens} {es:List Ent} {t n:Int} (ht:1<=t/\t<=2251799813685248/\0<=n/\n<12) (h: ∀a∈es,a.Ok):delKv (kvOf U es) (keyL t n)=kvOf U (es.filter fun a=>decide (¬(a.tx=t/\a.n=n))):=by rw [kvOf,delKv_left _ (usr_lt U _ _),kvOf];congr 1;rw [delKv,List.filter_map];congr 1;apply List.filter_congr;intro a ha;have h2:=key_eq (h a ha).1 ht;simp [ueOf,h2]
theorem with_sorted {e:Ent}: ∀l:List Ent,l.Pairwise befE->(withE l e).Pairwise befE
 | [],_=>by simp [withE]
 |a::r,h=>by
  have h':=List.pairwise_cons.1 h;rw [withE];split
  ·rename_i hk;refine List.pairwise_cons.2 ⟨fun x hx=> ?_,with_sorted r h'.2⟩;rcases with_mem r hx with q|q
   ·subst q;exact hk
   exact h'.1 x q
  split
  ·rename_i h1 h2;refine List.pairwise_cons.2 ⟨fun x hx=> ?_,h'.2⟩;have:=h'.1 x hx;unfold befE at this ⊢;omega
  rename_i h1 h2;have h3:befE e a:=by unfold befE at h1 ⊢;omega
  refine List.pairwise_cons.2 ⟨fun x hx=> ?_,h⟩;rcases List.mem_cons.1 hx with q|q
  ·subst q;exact h3
  have:=h'.1 x q;unfold befE at this h3 ⊢;omega
theorem with_new_mem {e:Ent}: ∀l:List Ent,(∀a∈l,¬(a.tx=e.tx/\a.n=e.n))-> ∀x,x∈withE l e↔x=e\/x∈l
 | [],_,x=>by simp [withE]
 |a::r,h,x=>by
  have ih:=with_new_mem r (fun b hb=>h b (by simp [hb])) x;rw [withE];split
  ·rw [List.mem_cons,ih,List.mem_cons];constructor
   ·rintro (q|q|q)<;>simp [q]
   rintro (q|q|q)<;>simp [q]
  rw [if_neg (h a (by simp)),List.mem_cons,List.mem_cons]
theorem lookO_none {l:List Ent} {key:Bs} (h:lookO l key=none): ∀e∈l,e.key≠key:=fun e he q=>by
 rw [lookO,List.find?_eq_none] at h;have:=h e he;simp [q] at this
theorem lookO_no {l:List Ent} {key:Bs} (h: ∀e∈l,e.key≠key):lookO l key=none:=by rw [lookO,List.find?_eq_none];intro e he;simpa using h e he
theorem lookO_some {l:List Ent} {key:Bs} {e:Ent} (h:lookO l key=some e):e∈l/\e.key=key:=by rw [lookO] at h;exact ⟨List.mem_of_find?_eq_some h,by have:=List.find?_some h;simpa using this⟩
theorem lookKv_in {k v:Bs}: ∀{l:Ens},lookKv l k=some v-> ∃e∈l,e.1=k/\e.2=v
 | [],h=>by simp [lookKv] at h
 |a::r,h=>by
  rw [lookKv] at h;split at h
  ·obtain ⟨e,h1,h2⟩:=lookKv_in h;exact ⟨e,by simp [h1],h2⟩
  split at h
  ·rename_i h2;injection h with h;exact ⟨a,by simp,h2,h⟩
  cases h
structure TxI (B:Nat) (d:Db) (P:Pl) (n:Int) (K:Nat) (U:Ens) (es:List Ent):Prop where
 ok:DbOk d
 ph:PHoldsA B P n K (kvOf U es)
 n1:1<=n
 us:Sorted U
 ub: ∀e∈U,(1<=e.1.length/\e.1.length<=20)/\e.2.length<=24
 eok: ∀e∈es,e.Ok
 srt:es.Pairwise befE
 mem: ∀e,e∈es↔ ∃p∈d.l,e∈p.2.old
 ids:d.l.Pairwise fun p q=>p.1<q.1
 own: ∀p∈d.l,∀e∈p.2.old,e.tx=p.1/\e.n<p.2.n
 old: ∀p∈d.l,p.2.old.Pairwise fun a b=>a.n<b.n/\a.key≠b.key
 n12: ∀p∈d.l,p.2.n<=12
 exc: ∀p∈d.l,∀q∈d.l,p.1≠q.1-> ∀e∈p.2.old,lookO q.2.old e.key=none
theorem TxI.holds {d:Db} {P:Pl} {n:Int} {K:Nat} {U:Ens} {es:List Ent} (h:TxI B d P n K U es):HoldsA B (newBt P) K (kvOf U es):=h.ph.2
theorem TxI.all {d:Db} {P:Pl} {n:Int} {K:Nat} {U:Ens} {es:List Ent} (h:TxI B d P n K U es):AllOk (newBt P):=AllOk.new h.ph.1
theorem TxI.count {d d':Db} {P:Pl} {n:Int} {K:Nat} {U:Ens} {es:List Ent} (h:TxI B d P n K U es) (hl:d'.l=d.l) (hd:DbOk d'):TxI B d' P n K U es:=
 ⟨hd,h.ph,h.n1,h.us,h.ub,h.eok,h.srt,fun e=>by rw [hl];exact h.mem e,by rw [hl];exact h.ids,fun p hp=>h.own p (hl▸hp),fun p hp=>h.old p (hl▸hp),fun p hp=>h.n12 p (hl▸hp),fun p hp q hq=>h.exc p (hl▸hp) q (hl▸hq)⟩
theorem TxI.tx {d:Db} {P:Pl} {n:Int} {K:Nat} {U:Ens} {es:List Ent} (h:TxI B d P n K U es) {p:Int×Opn} (hp:p∈d.l):1<=p.1/\p.1<=2251799813685248:=by have h1:=h.ok.ids p hp;have:=h.ok.e0;have:=h.ok.e1;have:=h.ok.b1;omega
theorem TxI.uniq {d:Db} {P:Pl} {n:Int} {K:Nat} {U:Ens} {es:List Ent} (h:TxI B d P n K U es) {p q:Int×Opn} (hp:p∈d.l) (hq:q∈d.l) (he:p.1=q.1):p=q:=by
 have: ∀l:List (Int×Opn),l.Pairwise (fun p q=>p.1<q.1)-> ∀p∈l,∀q∈l,p.1=q.1->p=q:=by
  intro l;induction l with
  |nil=>intro _ p hp;simp at hp
  |cons a r ih=>
   intro hl p hp q hq he;have h':=List.pairwise_cons.1 hl;rcases List.mem_cons.1 hp with e1|e1<;>rcases List.mem_cons.1 hq with e2|e2
   ·rw [e1,e2]
   ·have:=h'.1 q e2;rw [<-e1] at this;omega
   ·have:=h'.1 p e1;rw [<-e2] at this;omega
   exact ih h'.2 p e1 q e2 he
 exact this _ h.ids p hp q hq he
theorem TxI.begin {d:Db} {P:Pl} {n:Int} {K:Nat} {U:Ens} {es:List Ent} (h:TxI B d P n K U es) (hr:d.room=true) (bo:Nat) (hs:d.seq+1<=1000000000000):TxI B (d.begin bo) P n K U es:=by
 have hmem: ∀p,p∈(d.begin bo).l↔p∈d.l\/p=(d.next,⟨0, [],bo⟩):=fun p=>by show p∈d.l++ [_]↔_;simp
 refine ⟨h.ok.begin hr bo hs,h.ph,h.n1,h.us,h.ub,h.eok,h.srt,fun e=> ?_, ?_,fun p hp=> ?_,fun p hp=> ?_,fun p hp=> ?_,fun p hp q hq hne e he=> ?_⟩
 ·rw [h.mem];constructor
  ·rintro ⟨p,hp,he⟩;exact ⟨p,(hmem p).2 (.inl hp),he⟩
  rintro ⟨p,hp,he⟩;rcases (hmem p).1 hp with q|q
  ·exact ⟨p,q,he⟩
  subst q;simp at he
 ·show (d.l++ [_]).Pairwise _;refine List.pairwise_append.2 ⟨h.ids,by simp,fun p hp q hq=> ?_⟩;obtain rfl:q=(d.next,⟨0, [],bo⟩):=by simpa using hq
  have:=(h.ok.ids p hp).2;show p.1<d.next;unfold Db.next;omega
 ·rcases (hmem p).1 hp with q|q
  ·exact h.own p q
  subst q;intro e he;simp at he
 ·rcases (hmem p).1 hp with q|q
  ·exact h.old p q
  subst q;simp
 ·rcases (hmem p).1 hp with q|q
  ·exact h.n12 p q
  subst q;exact Nat.zero_le _
 rcases (hmem p).1 hp with q1|q1
 ·rcases (hmem q).1 hq with q2|q2
  ·exact h.exc p q1 q q2 hne e he
  subst q2;rfl
 subst q1;simp at he
def Db.wr (d:Db) (tx:Int) (again:Bool) (e:Ent):Db:={d with l:=d.l.map fun p=>if p.1=tx then (p.1,p.2.wrote again e) else p}
theorem wr_mem {d:Db} {tx:Int} {again:Bool} {e:Ent} {q:Int×Opn}:q∈(d.wr tx again e).l↔ ∃p∈d.l,q=if p.1=tx then (p.1,p.2.wrote again e) else p:=by
 show q∈d.l.map _↔_;rw [List.mem_map];constructor
 ·rintro ⟨p,hp,rfl⟩;exact ⟨p,hp,rfl⟩
 rintro ⟨p,hp,rfl⟩;exact ⟨p,hp,rfl⟩
def getE (tx:Int) (n:Nat) (key:Bs) (vo:Option Bs):Ent:=⟨tx,n,key,vo.isSome,vo.getD []⟩
def Opn.again (o:Opn) (key:Bs):Bool:=(lookO o.old key).isSome
theorem TxI.wrote {d:Db} {P P':Pl} {n n':Int} {K K':Nat} {U U':Ens} {es:List Ent} (h:TxI B d P n K U es) {tx:Int} {o:Opn} {key:Bs} (hp:(tx,o)∈d.l) (hn:o.n<12)
  (hk:1<=key.length/\key.length<=20) (hoth: ∀p∈d.l,p.1≠tx->lookO p.2.old key=none) (hn':n<=n') (us':Sorted U') (ub': ∀e∈U',(1<=e.1.length/\e.1.length<=20)/\e.2.length<=24)
  (ph':PHoldsA B P' n' K' (kvOf U' (if o.again key then es else withE es (getE tx o.n key (lookKv U key))))) :
  TxI B (d.wr tx (o.again key) (getE tx o.n key (lookKv U key))) P' n' K' U' (if o.again key then es else withE es (getE tx o.n key (lookKv U key))):=by
 have htx:=h.tx hp;have hval:((lookKv U key).getD []).length<=24:=by
  cases hl:lookKv U key with
  |none=>exact Nat.zero_le _
  |some v=>
   obtain ⟨e,he,_,rfl⟩:=lookKv_in hl;exact (h.ub e he).2
 have hok:(getE tx o.n key (lookKv U key)).Ok:=by
  refine ⟨⟨htx.1,htx.2,by show (0:Int)<=(o.n:Nat);omega,by show ((o.n:Nat):Int)<12;omega⟩,hk,hval, ?_⟩;cases hl:lookKv U key with
  |none=>exact .inr rfl
  |some v=>exact .inl rfl
 have hother: ∀p∈d.l,p.1=tx->p.2=o:=fun p hp' he=>by have:=h.uniq hp' hp he;rw [this]
 generalize Z:getE tx o.n key (lookKv U key)=E at*;have hEt:E.tx=tx:=by rw [<-Z];rfl
 have hEn:E.n=(o.n:Nat):=by rw [<-Z];rfl
 have hEk:E.key=key:=by rw [<-Z];rfl
 have hfresh: ∀a∈es,¬(a.tx=E.tx/\a.n=E.n):=fun a ha ⟨q1,q2⟩=>by
  obtain ⟨p,hp',hm⟩:=(h.mem a).1 ha;have h1:=h.own p hp' a hm;have h2:=hother p hp' (by rw [<-h1.1,q1,hEt]);rw [h2] at h1;omega
 have hold: ∀p∈d.l,∀x,x∈(if p.1=tx then (p.1,p.2.wrote (o.again key) E) else p).2.old↔x∈p.2.old\/(p.1=tx/\o.again key=false/\x=E):=fun p hp' x=>by
  by_cases q:p.1=tx
  ·rw [if_pos q];show x∈(if o.again key=true then p.2.old else p.2.old++ [E])↔_;cases hag:o.again key<;>simp [q]
  rw [if_neg q];simp [q]
 have hfst: ∀p:Int×Opn,(if p.1=tx then (p.1,p.2.wrote (o.again key) E) else p).1=p.1:=fun p=>by split<;>rfl
 refine ⟨⟨h.ok.e0,h.ok.e1,h.ok.b0,h.ok.b1,h.ok.s0,h.ok.s1,fun q hq=> ?_, ?_⟩,ph',by have:=h.n1;omega,us',ub', ?_, ?_,fun x=> ?_, ?_,fun q hq=> ?_,fun q hq=> ?_,fun q hq=> ?_,fun q hq r hr hne x hx=> ?_⟩
 ·obtain ⟨p,hp',rfl⟩:=wr_mem.1 hq;rw [hfst];exact h.ok.ids p hp'
 ·show (d.l.map _).length<=16;rw [List.length_map];exact h.ok.len
 ·intro a ha;split at ha
  ·exact h.eok a ha
  rcases with_mem es ha with q|q
  ·rw [q];exact hok
  exact h.eok a q
 ·split
  ·exact h.srt
  exact with_sorted es h.srt
 ·have e1:(x∈if o.again key=true then es else withE es E)↔x∈es\/(o.again key=false/\x=E):=by
   cases hag:o.again key
   ·simp only [Bool.false_eq_true,if_false,with_new_mem es hfresh,true_and];exact Or.comm
   simp
  rw [e1,h.mem];constructor
  ·rintro (⟨p,hp',hx⟩|⟨hag,rfl⟩)
   ·exact ⟨_,wr_mem.2 ⟨p,hp',rfl⟩,(hold p hp' x).2 (.inl hx)⟩
   exact ⟨_,wr_mem.2 ⟨(tx,o),hp,rfl⟩,(hold (tx,o) hp x).2 (.inr ⟨rfl,hag,rfl⟩)⟩
  rintro ⟨q,hq,hx⟩;obtain ⟨p,hp',rfl⟩:=wr_mem.1 hq;rcases (hold p hp' x).1 hx with hx|⟨_,hag,rfl⟩
  ·exact .inl ⟨p,hp',hx⟩
  exact .inr ⟨hag,rfl⟩
 ·show (d.l.map _).Pairwise _;rw [List.pairwise_map];exact h.ids.imp (fun {a b} hab=>by rw [hfst,hfst];exact hab)
 ·obtain ⟨p,hp',rfl⟩:=wr_mem.1 hq;intro x hx;rw [hfst];have hnn:p.2.n<=(if p.1=tx then (p.1,p.2.wrote (o.again key) E) else p).2.n:=by
   split
   ·exact Nat.le_succ _
   exact Nat.le_refl _
  rcases (hold p hp' x).1 hx with hx|⟨q,hag,rfl⟩
  ·have:=h.own p hp' x hx;exact ⟨this.1,by omega⟩
  refine ⟨by rw [hEt,q], ?_⟩;rw [if_pos q,hEn];have:=hother p hp' q;show ((o.n:Nat):Int)<((p.2.n+1:Nat):Int);rw [this];omega
 ·obtain ⟨p,hp',rfl⟩:=wr_mem.1 hq;by_cases q:p.1=tx
  ·rw [if_pos q];have ho:=hother p hp' q;show (if o.again key=true then p.2.old else p.2.old++ [E]).Pairwise _;cases hag:o.again key
   ·simp only [Bool.false_eq_true,if_false];refine List.pairwise_append.2 ⟨h.old p hp',by simp,fun a ha b hb=> ?_⟩;obtain rfl:b=E:=by simpa using hb
    have h1:=h.own p hp' a ha;have h2:lookO o.old key=none:=by
     unfold Opn.again at hag;cases hl:lookO o.old key with
     |none=>rfl
     |some z=>rw [hl] at hag;simp at hag
    rw [ho] at ha h1;exact ⟨by rw [hEn];exact h1.2,by rw [hEk];exact lookO_none h2 a ha⟩
   simp only [if_true];exact h.old p hp'
  rw [if_neg q];exact h.old p hp'
 ·obtain ⟨p,hp',rfl⟩:=wr_mem.1 hq;by_cases q:p.1=tx
  ·rw [if_pos q];have:=hother p hp' q;show p.2.n+1<=12;rw [this];omega
  rw [if_neg q];exact h.n12 p hp'
 obtain ⟨p,hp',rfl⟩:=wr_mem.1 hq;obtain ⟨s,hs',rfl⟩:=wr_mem.1 hr;rw [hfst,hfst] at hne;refine lookO_no fun y hy hyx=> ?_;rcases (hold p hp' x).1 hx with hx2|⟨q1,hag,rfl⟩
 ·rcases (hold s hs' y).1 hy with hy2|⟨q2,hag,q3⟩
  ·exact lookO_none (h.exc p hp' s hs' hne x hx2) y hy2 hyx
  rw [q3,hEk] at hyx;exact lookO_none (hoth p hp' (by rw [<-q2];exact hne)) x hx2 hyx.symm
 rcases (hold s hs' y).1 hy with hy2|⟨q2,hag,q3⟩
 ·rw [hEk] at hyx;exact lookO_none (hoth s hs' (by rw [<-q1];exact fun e=>hne e.symm)) y hy2 hyx
 exact hne (by rw [q1,q2])
def LaidTo (P:Pl) (n:Int) (recs:List Rc) (P':Pl):Prop:=laidP P recs n=some (P',n+recs.length)
theorem TxI.write {d:Db} {P:Pl} {n:Int} {K K1 c1:Nat} {U U':Ens} {es:List Ent} {b1:Bt} (h:TxI B d P n K U es) {tx:Int} {o:Opn} {key:Bs} (hp:(tx,o)∈d.l) (hn:o.n<12)
  (hk:1<=key.length/\key.length<=20) (hoth: ∀p∈d.l,p.1≠tx->lookO p.2.old key=none) (us':Sorted U') (ub': ∀e∈U',(1<=e.1.length/\e.1.length<=20)/\e.2.length<=24)
  (hr1:Runs (newBt P) b1 c1) (hb1:HoldsA B b1 K1 (kvOf U' es)) (hK1:K1<=735) (hc1:c1<=1000) (hn9:n<=1000000000) :
  (getE tx o.n key (lookKv U key)).Ok/\((lookKv U key).getD []).length<=24/\(b1.pool=P.f/\b1.recs.length<=c1)/\ ∃b2,(o.again key=false->b1.put (keyL tx o.n) (getE tx o.n key (lookKv U key)).enc= .ok b2/\b2.pool=P.f/\b2.recs.length<=c1+601)/\
   ∃P',LaidTo P n (if o.again key then b1.recs else b2.recs) P'/\(if o.again key then b1.recs else b2.recs).length<=c1+601/\
    TxI B (d.wr tx (o.again key) (getE tx o.n key (lookKv U key))) P' (n+(if o.again key then b1.recs else b2.recs).length) (K1+1) U' (if o.again key then es else withE es (getE tx o.n key (lookKv U key))):=by
 have htx:=h.tx hp;have hval:((lookKv U key).getD []).length<=24:=by
  cases hl:lookKv U key with
  |none=>exact Nat.zero_le _
  |some v=>
   obtain ⟨e,he,_,rfl⟩:=lookKv_in hl;exact (h.ub e he).2
 have hok:(getE tx o.n key (lookKv U key)).Ok:=by
  refine ⟨⟨htx.1,htx.2,by show (0:Int)<=(o.n:Nat);omega,by show ((o.n:Nat):Int)<12;omega⟩,hk,hval, ?_⟩;cases hl:lookKv U key with
  |none=>exact .inr rfl
  |some v=>exact .inl rfl
 have e0:(newBt P).recs.length=0:=rfl;have hl1:=Runs.len hr1;have hn1:=h.n1;have ha1:AllOk b1:=hr1.ok h.all;refine ⟨hok,hval,⟨hl1.2,by omega⟩, ?_⟩;cases hag:o.again key
 ·have h2:lookO o.old key=none:=by
   unfold Opn.again at hag;cases hl:lookO o.old key with
   |none=>rfl
   |some z=>rw [hl] at hag;simp at hag
  have hrk:rightK (keyL tx (o.n:Nat))=true:=by simp [rightK,keyL_len]
  obtain ⟨b2,h3,h4⟩:=hb1.put hK1 hrk (by have:=enc_len hok;omega:(getE tx o.n key (lookKv U key)).enc.length<=64);have hr2:Runs (newBt P) b2 (c1+601):=hr1.trans (put_runs ha1 h3) (Nat.le_refl _);have hl2:=Runs.len hr2;have h5:HoldsA B b2 (K1+1) (kvOf U' (withE es (getE tx o.n key (lookKv U key)))):=by have e:=kv_note (U:=U') (es:=es) hok h.eok;rw [<-e];exact h4
  obtain ⟨h6,P',h7,h8⟩:=laid_holdsA h.ph.1 hn1 hr2 (by omega) h5;refine ⟨b2,fun _=>⟨h3,hl2.2,by omega⟩,P',h7,h6, ?_⟩;have:=h.wrote hp hn hk hoth (by omega:n<=n+(b2.recs.length:Nat)) us' ub' (P':=P') (K':=K1+1) (by rw [hag];exact h8);rw [hag] at this;exact this
 obtain ⟨h6,P',h7,h8⟩:=laid_holdsA h.ph.1 hn1 hr1 (by omega) (hb1.mono (Nat.le_succ _));refine ⟨b1,fun q=>Bool.noConfusion q,P',h7,by simp only [if_true];omega, ?_⟩;have:=h.wrote hp hn hk hoth (by omega:n<=n+(b1.recs.length:Nat)) us' ub' (P':=P') (K':=K1+1) (by rw [hag];exact h8);rw [hag] at this;exact this
theorem ub_ins {U:Ens} {key v:Bs} (h: ∀e∈U,(1<=e.1.length/\e.1.length<=20)/\e.2.length<=24) (hk:1<=key.length/\key.length<=20) (hv:v.length<=24): ∀e∈insKv U key v,(1<=e.1.length/\e.1.length<=20)/\e.2.length<=24:=fun e he=>by
 rcases insKv_mem U he with q|q
 ·rw [q];exact ⟨hk,hv⟩
 exact h e q
theorem sorted_del {U:Ens} (key:Bs) (h:Sorted U):Sorted (delKv U key):=List.Pairwise.sublist List.filter_sublist h
theorem ub_del {U:Ens} {key:Bs} (h: ∀e∈U,(1<=e.1.length/\e.1.length<=20)/\e.2.length<=24): ∀e∈delKv U key,(1<=e.1.length/\e.1.length<=20)/\e.2.length<=24:=fun e he=>h e (List.mem_filter.1 he).1
theorem rightK_usr {key:Bs} (hk:key.length<=20):rightK (107::key)=true:=by simp [rightK];omega
theorem TxI.get {d:Db} {P:Pl} {n:Int} {K:Nat} {U:Ens} {es:List Ent} (h:TxI B d P n K U es) {key:Bs} (hk:key.length<=20):(newBt P).get (107::key)= .ok (lookKv U key):=by rw [h.holds.get (rightK_usr hk),kv_look]
theorem TxI.put {d:Db} {P:Pl} {n:Int} {K:Nat} {U:Ens} {es:List Ent} (h:TxI B d P n K U es) {key v:Bs} (hk:1<=key.length/\key.length<=20) (hv:v.length<=24) (hK:K<=735) :
  ∃b1,(newBt P).put (107::key) v= .ok b1/\Runs (newBt P) b1 601/\HoldsA B b1 (K+1) (kvOf (insKv U key v) es):=by
 obtain ⟨b1,h1,h2⟩:=h.holds.put hK (rightK_usr hk.2) (by omega:v.length<=64);rw [kv_ins] at h2;exact ⟨b1,h1,put_runs h.all h1,h2⟩
theorem TxI.del {d:Db} {P:Pl} {n:Int} {K:Nat} {U:Ens} {es:List Ent} (h:TxI B d P n K U es) {key:Bs} (hk:1<=key.length/\key.length<=20) (hK:K+6<=3*B) :
  ∃b1,(newBt P).delete (107::key)= .ok ((lookKv U key).isSome,b1)/\Runs (newBt P) b1 27/\HoldsA B b1 K (kvOf (delKv U key) es):=by
 obtain ⟨b1,h1,h2,h3⟩:=h.holds.delete h.all (rightK_usr hk.2) hK;rw [kv_look] at h1;rw [kv_del] at h3;exact ⟨b1,h1,h2,h3⟩
theorem c_cutG {X:Type} {P:Program} {Q:Exit->Act->World->Prop} {N:Nat} {env:Env} {a:Act} {w0 w:World} {D:Sto} {ss:List Seg} {x y:Code} (slots:List Nat) (en:X->Env) (F:X->Prop) (Dn:X->Sto) (nw:X->List Seg) (Z:EnvOk N env a) (I:Inv w0 D ss w)
    (h:x.wp P (Exit.then (fun a' w'=> ∃z,EnvOk N (en z++pick env slots) a'/\F z/\Inv w0 (Dn z) (nw z++ss) w') Q) a w)
    (k: ∀z a' w',EnvOk N (en z++pick env slots) a'->F z->Inv w0 (Dn z) (nw z++ss) w'->y.wp P Q a' w'):(Code.seq x y).wp P Q a w:=
  wp_seq (wp_mono h fun e a' w' q=>by
    cases e<;>first|exact q|(obtain ⟨b,hE',hF,hI'⟩:=q;exact k b a' w' hE' hF hI'))
end Go.Proofs.YtkknmpkcfpdllaaGreatDoor.B
