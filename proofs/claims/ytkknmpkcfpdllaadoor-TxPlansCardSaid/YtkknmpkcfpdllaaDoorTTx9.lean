/- What functions of the program compute, each function once: steps over the model, and the plain law of it. -/
import Derived.Test.YtkknmpkcfpdllaaDoorTTx8
import Derived.Test.YtkknmpkcfpdllaaDoorTFirst
import Derived.Test.YtkknmpkcfpdllaaDoorTFacts
namespace Go.Proofs.YtkknmpkcfpdllaaDoor.B
open Go Go.Proofs
set_option linter.unusedVariables false
set_option linter.unusedSimpArgs false
set_option maxRecDepth 20000
set_option maxHeartbeats 8000000
def numR:List Rc->Int->List Rc
 | [],_=> []
 |r::l,n=>{r with lsn:=n}::numR l (n+1)
theorem numR_len: ∀(l:List Rc) (n:Int),(numR l n).length=l.length
 | [],_=>rfl
 |r::l,n=>by simp [numR,numR_len l]
theorem numR_snoc (r:Rc): ∀(l:List Rc) (n:Int),numR (l++ [r]) n=numR l n++ [{r with lsn:=n+(l.length:Nat)}]
 | [],n=>by simp [numR]
 |a::l,n=>by
  rw [List.cons_append,numR,numR_snoc r l,numR,List.cons_append];congr 4;simp only [List.length_cons];omega
theorem laid_apply: ∀(l:List Rc) {P P':Pl} {n m:Int},laidP P l n=some (P',m)->applyL P (numR l n)=some P'
 | [],P,P',n,m,h=>by
  rw [laidP] at h;injection h with h;injection h with h1 h2;rw [numR,applyL,h1]
 |r::l,P,P',n,m,h=>by
  rw [laidP] at h;split at h
  ·cases h
  split at h
  ·cases h
  rename_i P1 h1;rw [numR,applyL,h1];exact laid_apply l h
theorem laid_goodF: ∀(l:List Rc) {P P':Pl} {n m at9:Int},laidP P l n=some (P',m)->at9<n->goodF at9 (numR l n) l=true
 | [],_,_,_,_,_,_,_=>rfl
 |r::l,P,P',n,m,at9,h,ha=>by
  rw [laidP] at h;split at h
  ·cases h
  rename_i hv;split at h
  ·cases h
  have hv':validR {r with lsn:=n}=true:=by simpa using hv
  rw [numR,goodF,hv',decide_eq_true (show LikeR {r with lsn:=n} r from ⟨rfl,rfl,rfl,rfl,rfl⟩),decide_eq_true (show at9<n from ha)];exact laid_goodF l h (by show n<n+1;omega)
theorem laid_ready' {P:Pl} {n0:Int} (hP: ∀k x,P.f k=some x->x.lsn<n0): ∀(l:List Rc) {Q P':Pl} {n m:Int} {pg:List Int},n0<=n->laidP Q l n=some (P',m)->(∀k,P.f k≠none->Q.f k≠none)->(∀k,Q.f k≠none->P.f k≠none\/k∈pg)->
  ∀(i:Nat) r,(numR l n)[i]? =some r->(0<=r.page/\r.page<256)/\(∀x,P.f r.page=some x->x.lsn<r.lsn)/\(P.f r.page=none->r.kind=1\/r.page∈pg++((numR l n).take i).map (·.page))
 | [],Q,P',n,m,pg,hn,h,h1,h2,i,r,hr=>by simp [numR] at hr
 |a::l,Q,P',n,m,pg,hn,h,h1,h2,i,r,hr=>by
  rw [laidP] at h;split at h
  ·cases h
  rename_i hv;split at h
  ·cases h
  rename_i Q1 hQ;have hv':validR {a with lsn:=n}=true:=by simpa using hv
  simp only [validR,decide_eq_true_eq] at hv';have hQf: ∀k,Q1.f k=none↔(k≠a.page/\Q.f k=none):=fun k=>by
   unfold Pl.apply at hQ;split at hQ
   ·rename_i x hx;injection hQ with hQ;subst hQ
    show (if k=a.page then _ else _)=none↔_;by_cases q:k=a.page
    ·rw [if_pos q];simp [q]
    rw [if_neg q];simp [q]
   split at hQ
   ·injection hQ with hQ;subst hQ
    show (if k=a.page then _ else _)=none↔_;by_cases q:k=a.page
    ·rw [if_pos q];simp [q]
    rw [if_neg q];simp [q]
   cases hQ
  cases i with
  |zero=>
   have e:r={a with lsn:=n}:=by simpa [numR] using hr.symm
   subst e;refine ⟨⟨hv'.2.2.2.2.2.2.1,hv'.2.2.2.2.2.2.2.1⟩,fun x hx=>by have:=hP _ x hx;show x.lsn<n;omega,fun hno=> ?_⟩;by_cases q:Q.f a.page=none
   ·refine .inl ?_;unfold Pl.apply at hQ;rw [show ({a with lsn:=n}:Rc).page=a.page from rfl,q] at hQ;simp only [] at hQ;split at hQ
    ·rename_i hk;exact hk.1
    cases hQ
   rcases h2 _ q with q2|q2
   ·exact absurd hno q2
   exact .inr (List.mem_append_left _ q2)
  |succ i=>
   have hr':(numR l (n+1))[i]? =some r:=by simpa [numR] using hr
   obtain ⟨g1,g2,g3⟩:=laid_ready' hP l (pg:=pg++ [a.page]) (by omega) h (fun k q q2=>by
    have:=(hQf k).1 q2;exact h1 k q this.2) (fun k q=>by
    by_cases e:k=a.page
    ·exact .inr (by simp [e])
    rcases h2 k (fun q2=>q ((hQf k).2 ⟨e,q2⟩)) with q3|q3
    ·exact .inl q3
    exact .inr (by simp [q3])) i r hr'
   refine ⟨g1,g2,fun hno=> ?_⟩;rcases g3 hno with q|q
   ·exact .inl q
   refine .inr ?_;rw [numR,List.take_succ_cons,List.map_cons];simpa [List.append_assoc] using q
theorem laid_ready {P P':Pl} {l:List Rc} {n m:Int} (hP:PlOk P n) (h:laidP P l n=some (P',m)):ReadyP P (numR l n):=by intro i r hr;have:=laid_ready' (fun k x hx=>(hP k x hx).2.2) l (pg:= []) (Int.le_refl n) h (fun k q=>q) (fun k q=> .inl q) i r hr;simpa using this
theorem TxI.start {B:Nat} {e:Int} (h0:0<=e) (h1:e<=1073741824):TxI B ⟨e,0,0, []⟩ E0 4 0 [] []:=
 ⟨⟨h0,h1,by simp,by simp,by simp,by simp,by simp,by simp⟩,E0_holdsA,by omega,by simp [Sorted],by simp,by simp,by simp,by simp,by simp,by simp,by simp,by simp,by simp⟩
theorem DbOk.seq_up {d:Db} (h:DbOk d) {n:Int} (h0:0<=n) (hs:d.seq+n<=1000000000000):DbOk {d with seq:=d.seq+n}:=
 ⟨h.e0,h.e1,h.b0,h.b1,by have:=h.s0;show 0<=d.seq+n;omega,hs,h.ids,h.len⟩
theorem DbOk.seq_set {d:Db} (h:DbOk d) {n:Int} (h0:0<=n) (hs:n<=1000000000000):DbOk {d with seq:=n}:=
 ⟨h.e0,h.e1,h.b0,h.b1,h0,hs,h.ids,h.len⟩
theorem Take_ok {w0 w:World} {D:Sto} {ss:List Seg} {s sp:Seg} {vd vp vl v:Value} {d:Db} {P P':Pl} {recs:List Rc} {n:Int} {l':List (Int×Opn)} (I:Inv w0 D (s::sp::ss) w) {ad:Nat->Addr} (hS17:Sents D ad) (hd:DbS D vd vp d s) (hdb:DbOk d) (hP:PoolS D vp P sp)
  (hpl:PlanR D vd vp v recs d.seq d.l l') (hla:LaidTo P n recs P') (hPl:PlOk P n) (h1:1<=n) (hl:DR 10 RcR D vl (numR recs n)) (hrl:recs.length<=1000000000) :
  Calls Tryd.prog 30 #[vd,v,vl] w (Ret fun r w'=>r= .nilIface/\ ∃D' s' sp',Le D D'/\DbS D' vd vp {d with seq:=d.seq+1,l:=l'} s'/\PoolS D' vp P' sp'/\Inv w0 D' (s'::sp'::ss) w'):=by
 have hg:=laid_goodF recs hla (show (0:Int)<n by omega);refine (Take_spec I hS17 hd hdb hP hpl hl (by rw [numR_len];exact hrl) hrl (fun _=>rfl) (fun _ _=>⟨laid_ready hPl hla,_,laid_apply recs hla⟩)).mono ?_;rintro e w' ⟨r,he,h⟩;refine ⟨r,he, ?_⟩;rcases h with ⟨h,_⟩|⟨_,h,_⟩|⟨_,_,rfl,P2,D',s',sp',h2,h3,h4,h5,h6⟩
 ·exact absurd rfl h
 ·rw [hg] at h;cases h
 rw [laid_apply recs hla] at h2;injection h2 with h2;subst h2
 exact ⟨rfl,D',s',sp',h3,h4,h5,h6⟩
theorem numbered_spec {w0 w:World} {D:Sto} {ss:List Seg} (I:Inv w0 D ss w) {vl:Value} {l:List Rc} (hl:DR 10 RcR D vl l) (n:Int) (h0:1<=n) (hn:n+(l.length:Nat)<=1099511627776) :
  Calls Tryd.prog 26 #[vl, .int .i64 n] w (Ret fun r w'=> ∃D',Le D D'/\DR 10 RcR D' r (numR l n)/\Inv w0 D' ss w'):=by
 obtain ⟨A1,c2,rfl,_⟩:=hl.slice;refine enter (N:=28) Tryd.func26 rfl rfl rfl ?_;intro a Z;refine go 11 Z I ?_;clear Z a;intro a Z;replace I:=I.nilseg;refine c_loop (X:=Sto×Nat×Value×Seg) (fun y=> [(0,_),(1,_),(5,y.2.2.1),(6, .int .i64 (y.2.1:Nat))]) (fun y w=>y.2.1<=l.length/\Le D y.1/\OR 10 RcR y.1 68 y.2.2.1 (numR (l.take y.2.1) n) y.2.2.2/\Inv w0 y.1 (y.2.2.2::ss) w) (fun y=>l.length - y.2.1) (D,0, .slice none 0 0, []) (Z.pick [0,1,5,6]) ⟨Nat.zero_le _,Le.refl _,OR.nil _ _ _ _,I⟩ ?_;clear Z I a w;rintro ⟨D1,i,v,s1⟩ a w Z ⟨hi,hD1,hO,I⟩;(try dsimp only at Z);(try dsimp only at hi);(try dsimp only at hD1);(try dsimp only at hO);(try dsimp only at I);obtain ⟨A3,c4,rfl,_⟩:=hO.slice;refine go 4 Z I ?_;clear Z a;intro a Z;refine zs Z (p_len rfl rfl Tryd.underlying36) ?_;clear Z a;intro a Z;refine l_step rfl (o_cmp Z rfl rfl rfl rfl rfl rfl ?_ ?_)
 ·intro hlt;replace hlt:=lss_t hlt;clear Z a;intro a Z;refine go 9 Z I ?_;clear Z a;intro a Z;obtain ⟨x_5,hx_5⟩: ∃z9,(l)[i]? =some z9:=⟨_,List.getElem?_eq_getElem (by omega)⟩;obtain ⟨b_5,o_5,cs_5,T_5,fr_5,rfl,hb_5,hat_5⟩:=hl.at_ (by intro h0;rw [h0] at hx_5;simp at hx_5);obtain ⟨vs_5,hl_5,⟨k_5,v_5,rfl,hk_5,hv_5,hok_5⟩,hex_5,hsz_5,hce_5⟩:=hat_5.extract hx_5 (by omega);obtain ⟨A6,c7,rfl,_⟩:=hk_5.slice;obtain ⟨A8,c9,rfl,_⟩:=hv_5.slice;refine zs Z (p_indexAddr (m:=o_5+i*10) rfl rfl Tryd.underlying36 sz_68 (by omega) (by omega) (by simp)) ?_;clear Z a;intro a Z;refine zl Z (r_loadA rfl agg_68 (I.data _ _ (hD1 _ _ (hb_5))) hsz_5 hex_5) ?_;clear Z a;intro a Z;refine l_step rfl (o_call Z rfl rfl rfl rfl ent_45 (refRedo_spec (rc:=x_5) I ⟨_,_,rfl,(hk_5.mono hD1),(hv_5.mono hD1),hok_5⟩) ?_);clear I Z a;rintro r w ⟨D10,hD10,I,⟨k10,v10,rfl,hk10,hv10,ho10⟩⟩ a Z;obtain ⟨A11,c12,rfl,_⟩:=hk10.slice;obtain ⟨A13,c14,rfl,_⟩:=hv10.slice;refine l_step rfl (f_alloc (cs:= #[.int .i64 0, .int .i64 0, .int .i64 0, .int .i64 0, .int .i64 0, .int .i64 0, .int .i64 0, .slice none 0 0, .slice none 0 0, .bool false]) Z I rfl rfl rfl zer_68 rfl ?_);clear I Z a w;intro a b15 w Z I;refine l_step rfl (f_store (l:= [_,_,_,_,_,_,_,_,_,_]) (ss':=_::_) 0 Z I rfl rfl rfl rfl rfl sz_68 (by simp [Value.cells,Value.oneCell',pgCells,rcCells,zPg,errV,zUe,zPlan]) rfl rfl rfl ?_);clear I w;intro w I;refine go 4 Z I ?_;clear Z a;intro a Z;refine zs Z (p_arith (z:=n+(i:Nat)) rfl rfl (add_z rfl (by omega) (by omega))) ?_;clear Z a;intro a Z;refine zs Z (p_fieldAddr (m:=0) rfl fo_68_0 rfl) ?_;clear Z a;intro a Z;refine l_step rfl (f_store (l:= [_,_,_,_,_,_,_,_,_,_]) (ss':=_::_) 0 Z I rfl rfl rfl rfl rfl sz_2 (by simp [Value.cells,Value.oneCell',pgCells,rcCells,zPg,errV,zUe,zPlan]) rfl rfl rfl ?_);clear I w;intro w I;refine go 3 Z I ?_;clear Z a;intro a Z;refine zl Z (f_loadA (vs:= [_,_,_,_,_,_,_,_,_,_]) rfl agg_68 (I.seg 0 rfl) rfl rfl) ?_;clear Z a;intro a Z;refine l_step rfl (f_lit (vs:= [(0,_)]) (l:= [_,_,_,_,_,_,_,_,_,_]) Z I rfl rfl rfl rfl Tryd.underlying36 zs_68 rfl rfl rfl ?_);clear I Z a w;intro a b16 w Z I;refine l_step rfl (o_appendOR (R:=RcR) (el:=({x_5 with lsn:=n+(i:Nat)}:Rc)) 2 0 Z I rfl rfl rfl rfl rfl Tryd.underlying36 zsb_68 rfl rfl rfl (OR.mono RcR.keeps hO hD10) rfl rfl (⟨_,_,rfl,hk10,hv10,ho10.lsn (by omega) (by omega)⟩) (by simp [Value.oneCell']) (by rw [numR_len,List.length_take];omega) (by rw [numR_len,List.length_take];omega) ?_);clear I Z a w;intro v17 s18 w hO19 I a Z;obtain ⟨A20,c21,rfl,_⟩:=hO19.slice;replace I:=I.erase 0;(try simp only [nrm,Value.cells] at I);refine za Z ?_;clear Z a;intro a Z;refine wpList_nil ?_;refine go 4 Z I ?_;clear Z a;intro a Z;refine zs Z (p_arith (z:=((i+1:Nat):Int)) rfl rfl (add_z (by omega) (by omega) (by omega))) ?_;clear Z a;intro a Z;refine go 2 Z I ?_;clear Z a;intro a Z;replace I:=I.erase 0;obtain ⟨hlt1,hge1⟩:=List.getElem?_eq_some_iff.1 hx_5;have htl:(l.take i).length=i:=by rw [List.length_take];omega
  exact ⟨(D10,i+1,_,_),Z.pick [0,1,5,6],⟨by show i+1<=_;omega,(hD1.trans hD10),by show OR 10 RcR D10 68 _ (numR (l.take (i+1)) n) _;rw [List.take_succ_eq_append_getElem hlt1,hge1,numR_snoc,htl];exact hO19,I⟩,by show l.length - (i+1)<l.length - i;omega⟩
 intro hlt;replace hlt:=lss_f hlt;clear Z a;intro a Z;refine go 12 Z I ?_;clear Z a;intro a Z;refine ret1 rfl Z rfl ?_;have htk:l.take i=l:=List.take_of_length_le (by omega);simp only [htk] at hO ⊢;obtain ⟨hI9,hD9⟩:=I.shut_at 0 rfl;exact ⟨_,hD1.trans hD9,hO.shut RcR.keeps hD9,hI9⟩
theorem E0_applied:applyL Pl.empty (numR makeR 1)=some E0:=laid_apply makeR E0_laid
theorem numE_len:(numR makeR 1).length=3:=by rw [numR_len];rfl
theorem Empty24_spec {w0 w:World} {D:Sto} {ss:List Seg} (I:Inv w0 D ss w) {ad:Nat->Addr} (hS17:Sents D ad) (e:Int) (he0:0<=e) (he1:e<=1073741824) :
  Calls Tryd.prog 23 #[.int .i64 e] w (Ret fun r w'=> ∃D' bd q s sp,Le D D'/\r= .tuple #[.pointer (some ⟨bd,0,none⟩), .pointer (some ⟨q,0,none⟩), .int .i64 4]/\DbS D' (.pointer (some ⟨bd,0,none⟩)) (.pointer (some ⟨q,0,none⟩)) ⟨e,0,0, []⟩ s/\PoolS D' (.pointer (some ⟨q,0,none⟩)) E0 sp/\Inv w0 D' (s::sp::ss) w'):=by
 have hS:=hS17.t;refine enter (N:=40) Tryd.func23 rfl rfl rfl ?_;intro a Z;refine go 6 Z I ?_;clear Z a;intro a Z;refine l_step rfl (o_call Z rfl rfl rfl rfl ent_33 (PoolNew_spec I) ?_);clear I Z a;rintro r w ⟨s1,hP2,I⟩ a Z;obtain ⟨bp3,hbp⟩:=hP2.ptr;subst hbp;refine go 5 Z I ?_;clear Z a;intro a Z;refine zs Z (p_eq rfl rfl (g_none rfl) (e_ptrNil Tryd.underlying25 rfl) rfl rfl) ?_;clear Z a;intro a Z;refine gc 5 Z ?_;refine l_step rfl (o_call Z rfl rfl rfl rfl ent_34 (Make_spec I) ?_);clear I Z a;rintro r w ⟨D4,hD5,I,hL6⟩ a Z;obtain ⟨A7,c8,rfl,_⟩:=hL6.slice;refine l_step rfl (o_call Z rfl rfl rfl rfl ent_26 (numbered_spec I hL6 1 (by omega) (by show (1:Int)+((3:Nat):Int)<=_;omega)) ?_);clear I Z a;rintro r w ⟨D9,hD9,hL9,I⟩ a Z;obtain ⟨A10,c11,rfl,_⟩:=hL9.slice;refine go 7 Z I ?_;clear Z a;intro a Z;have hnl:=numE_len;refine c_loop (X:=Sto×Nat×Pl×Seg) (fun y=> [(0,_),(5,_),(6,_),(7, .int .i64 (y.2.1:Nat))]) (fun y w=>y.2.1<=3/\Le D9 y.1/\applyL y.2.2.1 ((numR makeR 1).drop y.2.1)=some E0/\PoolS y.1 (.pointer (some ⟨bp3,0,none⟩)) y.2.2.1 y.2.2.2/\Inv w0 y.1 (y.2.2.2::ss) w) (fun y=>3 - y.2.1) (D9,0,Pl.empty,_) (Z.pick [0,5,6,7]) ⟨Nat.zero_le _,Le.refl _,E0_applied,(hP2.mono (hD5.trans hD9)),I⟩ ?_;clear Z I a w;rintro ⟨D1,i,P1,s1⟩ a w Z ⟨hi,hD1,hap1,hP1,I⟩;(try dsimp only at Z);(try dsimp only at hi);(try dsimp only at hD1);(try dsimp only at hap1);(try dsimp only at hP1);(try dsimp only at I);refine go 4 Z I ?_;clear Z a;intro a Z;refine zs Z (p_len rfl rfl Tryd.underlying36) ?_;clear Z a;intro a Z;refine l_step rfl (o_cmp Z rfl rfl rfl rfl rfl rfl ?_ ?_)
 ·intro hlt;replace hlt:=lss_t hlt;clear Z a;intro a Z;refine go 10 Z I ?_;clear Z a;intro a Z;obtain ⟨x_12,hx_12⟩: ∃z9,((numR makeR 1))[i]? =some z9:=⟨_,List.getElem?_eq_getElem (by omega)⟩;obtain ⟨b_12,o_12,cs_12,T_12,fr_12,rfl,hb_12,hat_12⟩:=hL9.at_ (by intro h0;rw [h0] at hx_12;simp at hx_12);obtain ⟨vs_12,hl_12,⟨k_12,v_12,rfl,hk_12,hv_12,hok_12⟩,hex_12,hsz_12,hce_12⟩:=hat_12.extract hx_12 (by omega);obtain ⟨A13,c14,rfl,_⟩:=hk_12.slice;obtain ⟨A15,c16,rfl,_⟩:=hv_12.slice;refine zs Z (p_indexAddr (m:=o_12+i*10) rfl rfl Tryd.underlying36 sz_68 (by omega) (by omega) (by simp)) ?_;clear Z a;intro a Z;refine zl Z (r_loadA rfl agg_68 (I.data _ _ (hD1 _ _ (hb_12))) hsz_12 hex_12) ?_;clear Z a;intro a Z;refine l_step rfl (o_call Z rfl rfl rfl rfl ent_47 (PApply_spec (rc:=x_12) I hP1 (hS.mono ((hD5.trans hD9).trans hD1)) ⟨_,_,rfl,(hk_12.mono hD1),(hv_12.mono hD1),hok_12⟩) ?_);clear I Z a;rintro r w h a Z;rcases h with ⟨P17,hap17,rfl,D17,s17,hD17,hP17,I⟩|⟨hap17,_⟩
  case inr=>rw [applyL_at hx_12,hap17] at hap1;cases hap1
  (try simp only [nrm,Value.cells] at I);refine wpList_nil ?_;refine go 4 Z I ?_;clear Z a;intro a Z;refine zs Z (p_arith (z:=((i+1:Nat):Int)) rfl rfl (add_z (by omega) (by omega) (by omega))) ?_;clear Z a;intro a Z;refine go 2 Z I ?_;clear Z a;intro a Z;exact ⟨(D17,i+1,P17,_),Z.pick [0,5,6,7],⟨by show i+1<=_;omega,(hD1.trans hD17),by rw [applyL_at hx_12,hap17] at hap1;exact hap1,hP17,I⟩,by show 3 - (i+1)<3 - i;omega⟩
 intro hlt;replace hlt:=lss_f hlt;clear Z a;intro a Z;refine go 10 Z I ?_;clear Z a;intro a Z;have hE0:P1=E0:=by rw [List.drop_of_length_le (by omega),applyL] at hap1;injection hap1
 subst hE0;refine l_step rfl (o_call Z rfl rfl rfl rfl ent_58 (TxNew_spec I (hS.mono ((hD5.trans hD9).trans hD1)) e) ?_);clear I Z a;rintro r w h a Z;rcases h with ⟨hbad,_⟩|⟨_,vd18,s18,rfl,hd18,I⟩
 ·exfalso;omega
 obtain ⟨bd9,hbd9⟩:=DbS.ptr hd18;subst hbd9;refine go 18 Z I ?_;clear Z a;intro a Z;refine zs Z (p_len rfl rfl Tryd.underlying36) ?_;clear Z a;intro a Z;refine zs Z (p_arith (z:=4) rfl rfl (by rw [numE_len];rfl)) ?_;clear Z a;intro a Z;refine go 5 Z I ?_;clear Z a;intro a Z;refine ret3 rfl Z rfl rfl rfl ?_;exact ⟨D1,_,_,_,_,((hD5.trans hD9).trans hD1),rfl,hd18,hP1,I⟩
end Go.Proofs.YtkknmpkcfpdllaaDoor.B
