/- What functions of the program compute, each function once: steps over the model, and the plain law of it. -/
import Derived.Test.YtefaghnlmmgpcaaGreatDoorTConf1
import Derived.Test.YtefaghnlmmgpcaaGreatDoorSIter
import Derived.Test.YtefaghnlmmgpcaaGreatDoorTFacts
namespace Go.Proofs.YtefaghnlmmgpcaaGreatDoor.B
open Go Go.Proofs
set_option linter.unusedVariables false
set_option linter.unusedSimpArgs false
set_option maxRecDepth 20000
set_option maxHeartbeats 8000000
def YieldI (l:Nat) (vs:Array Value) (w:World) (R:Ending->World->Prop):Prop:= ∃r,w.heap[l]? =some (.loop r)/\vs.size=r.params.size/\RoundAt Tryz.prog l r vs w R
structure IRounds (w0:World) (D0:Sto) (l:Nat) (xs:List Int) (J:Nat->Sto->List Seg->Prop):Prop where
 mono: ∀i D D' ms,Le D D'->J i D ms->J i D' ms
 round: ∀i x D ms rest w,xs[i]? =some x->Le D0 D->J i D ms->Inv w0 D (ms++rest) w->
  YieldI l #[.int .i64 x] w fun en w'=> ∃D' ms',en= .returned (.bool true)/\Le D D'/\J (i+1) D' ms'/\Inv w0 D' (ms'++rest) w'
def ISeqOk (D:Sto) (v:Value) (xs:List Int):Prop:= ∃f cap,v= .func (.func f) #[] cap/\enters Tryz.prog f=true/\
 ∀(w0 w:World) (D':Sto) (ms ss:List Seg) (l:Nat) (J:Nat->Sto->List Seg->Prop),Le D D'->Inv w0 D' (ms++ss) w->IRounds w0 D' l xs J->J 0 D' ms->
  Calls Tryz.prog f (#[.func (.yield l) #[] #[]]++cap) w (Ret fun _ w'=> ∃D2 ms',Le D' D2/\J xs.length D2 ms'/\Inv w0 D2 (ms'++ss) w')
theorem p_indexS {env:Env} {t:TypeId} {x y:Operand} {s:ByteArray} {k:IntKind} {i z:Int} (hx:ev env x=some (.string s)) (hy:ev env y=some (.int k i)) (ht:Tryz.prog.underlying t=some .string) (h0:0<=i) (hz:(s[i.toNat]?).map (fun b=>((b.toNat:Nat):Int))=some z):PureOp Tryz.prog env (.index t x y) (.int .u8 z):=fun _ a w o Z ho=>by
 obtain ⟨b,h1,h2⟩:=Option.map_eq_some_iff.1 hz;subst h2;simp [execOp,ho,Z.eval hx,Z.eval hy,Instr.index,asIntOf,run_underlying ht,h0,h1]
def len8f (n:Nat):Int:=if n=0 then 0 else if n=1 then 1 else if n<4 then 2 else if n<8 then 3 else 4
theorem len8_of {s:ByteArray} (h: ∀k:Fin 13,(s[k.1]?).map (fun b=>((b.toNat:Nat):Int))=some (len8f k.1)) {n:Nat} (hn:n<=12):(s[((n:Nat):Int).toNat]?).map (fun b=>((b.toNat:Nat):Int))=some (len8f n):=by simpa using h ⟨n,by omega⟩
theorem len8_in (n:Nat):0<=len8f n/\len8f n<=4:=by
 unfold len8f;repeat' split
 all_goals omega
theorem u8_smallW {n:Nat} (h:n<=12):IntKind.u8.wrap ((n:Nat):Int)=((n:Nat):Int):=by rw [IntKind.wrap_u8];omega
theorem u64_smallW {n:Nat} (h:n<=12):IntKind.u64.wrap ((n:Nat):Int)=((n:Nat):Int):=by simp [IntKind.wrap,IntKind.bits,IntKind.signed];omega
theorem x_roundI {l:Nat} {r:Loop} {v1:Value} {t1:Tmp} {tm:Array Value} {R:Ending->World->Prop} {N:Nat} {env:Env} {w:World} (Z:EnvOk N env ⟨tm, []⟩) (ht:r.tmps=tm) (hp:r.params= #[t1]) (h1:Nat.blt t1 N=true)
  (h: ∀a',EnvOk N ((t1,v1)::env) a'->wpX (some l) Tryz.prog [] r.assign (beginX Tryz.prog l r.body R) a' w):RoundAt Tryz.prog l r #[v1] w R:=
 x_round (ps:= [(t1,v1)]) Z ht (by rw [hp];simp) (by simp [h1]) h
theorem Len64_spec {w0 w:World} {D:Sto} {ss:List Seg} (I:Inv w0 D ss w) (n:Nat) (hn:n<=12) :
  Calls Tryz.prog 214 #[.int .u64 (n:Nat)] w (Ret fun r w'=> ∃z,r= .int .i64 z/\Inv w0 D ss w'):=by
 refine enter (N:=25) Tryz.func214 rfl rfl rfl ?_;intro a Z;refine go 6 Z I ?_;clear Z a;intro a Z;refine zs Z (p_cmp rfl rfl (geq_n (by omega))) ?_;clear Z a;intro a Z;refine go 7 Z I ?_;clear Z a;intro a Z;refine zs Z (p_cmp rfl rfl (geq_n (by omega))) ?_;clear Z a;intro a Z;refine go 7 Z I ?_;clear Z a;intro a Z;refine zs Z (p_cmp rfl rfl (geq_n (by omega))) ?_;clear Z a;intro a Z;refine gc 4 Z ?_;refine wp_seq ?_;obtain ⟨hz0,hz1⟩:=len8_in n;refine go 3 Z I ?_;clear Z a;intro a Z;refine zs Z (p_int (z:=((n:Nat):Int)) Tryz.underlying270 Tryz.underlying5 rfl (u8_smallW hn)) ?_;clear Z a;intro a Z;refine zs Z (p_indexS rfl rfl Tryz.underlying9 (by omega) (len8_of (by decide+kernel) hn)) ?_;clear Z a;intro a Z;refine zs Z (p_int (z:=len8f n) Tryz.underlying5 Tryz.underlying3 rfl (IntWalk.i64_in _ ⟨by omega,by omega⟩)) ?_;clear Z a;intro a Z;refine zs Z (p_arith (z:=len8f n) rfl rfl (add_z (by omega) (by omega) (by omega))) ?_;clear Z a;intro a Z;refine go 3 Z I ?_;clear Z a;intro a Z;refine rt1 Z ?_;exact ⟨_,rfl,I⟩
theorem Len_spec {w0 w:World} {D:Sto} {ss:List Seg} (I:Inv w0 D ss w) (n:Nat) (hn:n<=12) :
  Calls Tryz.prog 192 #[.int .u64 (n:Nat)] w (Ret fun r w'=> ∃z,r= .int .i64 z/\Inv w0 D ss w'):=by
 refine enter (N:=8) Tryz.func192 rfl rfl rfl ?_;intro a Z;refine go 9 Z I ?_;clear Z a;intro a Z;refine l_step rfl (o_call Z rfl rfl rfl rfl ent_214 (Len64_spec I _ (by omega)) ?_);clear I Z a;rintro r w ⟨z9,rfl,I⟩ a Z;refine go 3 Z I ?_;clear Z a;intro a Z;refine rt1 Z ?_;exact ⟨_,rfl,I⟩
theorem SortI_spec {w0 w:World} {D:Sto} {ss:List Seg} (I:Inv w0 D ss w) {v:Value} {l:List Int} (hl:DR 1 IntR D v l) (hl12:l.length<=12) (hs:RisesI l) :
  Calls Tryz.prog 178 #[v] w (Ret fun r w'=>r= .tuple #[]/\Inv w0 D ss w'):=by
 obtain ⟨A1,c2,rfl,_⟩:=hl.slice;refine enter (N:=11) Tryz.func178 rfl rfl rfl ?_;intro a Z;refine go 2 Z I ?_;clear Z a;intro a Z;refine zs Z (p_len rfl rfl Tryz.underlying60) ?_;clear Z a;intro a Z;refine go 6 Z I ?_;clear Z a;intro a Z;refine zs Z (p_int (z:=((l.length:Nat):Int)) Tryz.underlying3 Tryz.underlying213 rfl (u64_smallW hl12)) ?_;clear Z a;intro a Z;refine l_step rfl (o_call Z rfl rfl rfl rfl ent_192 (Len_spec I l.length hl12) ?_);clear I Z a;rintro r w ⟨z9,rfl,I⟩ a Z;refine l_step rfl (o_call Z rfl rfl rfl rfl ent_191 (PdqI_spec I hl hl12 hs _) ?_);clear I Z a;rintro r w ⟨rfl,I⟩ a Z;refine wpList_nil ?_;refine ret0 rfl Z ?_;exact ⟨rfl,I⟩
theorem Values1_spec {w0 w:World} {D:Sto} {ss ms:List Seg} {l:Nat} {xs:List Int} {v:Value} {J:Nat->Sto->List Seg->Prop} (I:Inv w0 D (ms++ss) w) {b1 T1:Nat} {fr1:Nat×Nat} (hb:D b1=some (.cells #[v] T1 fr1)) (hl:DR 1 IntR D v xs) (hlm:xs.length<=1000000) (hR:IRounds w0 D l xs J) (hJ0:J 0 D ms) :
  Calls Tryz.prog 188 #[.func (.yield l) #[] #[], .pointer (some ⟨b1,0,none⟩)] w (Ret fun r w'=> ∃D' ms',Le D D'/\J xs.length D' ms'/\Inv w0 D' (ms'++ss) w'):=by
 have Hmono:=hR.mono;obtain ⟨A1,c2,rfl,_⟩:=hl.slice;refine enter (N:=16) Tryz.func188 rfl rfl rfl ?_;intro a Z;refine wsr ?_;refine zl Z (f_load rfl scal_60 (I.data _ _ (hb)) rfl) ?_;clear Z a;intro a Z;refine zs Z (p_len rfl rfl Tryz.underlying60) ?_;clear Z a;intro a Z;refine go 3 Z I ?_;clear Z a;intro a Z;refine c_loop (X:=Sto×List Seg×Nat) (fun x=> [(0,_),(5,_),(6,_),(7, .int .i64 (x.2.2:Nat))]) (fun x w=>Le D x.1/\x.2.2<=xs.length/\J x.2.2 x.1 x.2.1/\Inv w0 x.1 (x.2.1++ss) w) (fun x=>xs.length - x.2.2) (D,ms,0) (Z.pick [0,5,6,7]) ⟨Le.refl _,Nat.zero_le _,hJ0,I⟩ ?_;clear Z I a w;rintro ⟨D1,ms1,i⟩ a w Z ⟨hD1,hi,hJ1,I⟩;(try dsimp only at Z);(try dsimp only at hD1);(try dsimp only at hi);(try dsimp only at hJ1);(try dsimp only at I);refine wsr ?_;refine cmx Z ?_ ?_
 ·intro hlt;replace hlt:=lss_t hlt;clear Z a;intro a Z;refine gc 8 Z ?_;obtain ⟨x_3,hx_3⟩: ∃z9,(xs)[i]? =some z9:=⟨_,List.getElem?_eq_getElem (by omega)⟩;obtain ⟨b_3,o_3,cs_3,T_3,fr_3,rfl,hb_3,hat_3⟩:=hl.at_ (by intro h0;rw [h0] at hx_3;simp at hx_3);obtain ⟨vs_3,hl_3,hvs_3,hex_3,hsz_3,hce_3⟩:=hat_3.extract hx_3 (by omega);obtain rfl:vs_3= [.int .i64 x_3]:=hvs_3;refine zs Z (p_indexAddr (m:=o_3+i*1) rfl rfl Tryz.underlying60 sz_3 (by omega) (by omega) (by simp)) ?_;clear Z a;intro a Z;refine zl Z (r_load rfl scal_3 (I.data _ _ (hD1 _ _ (hb_3))) (hce_3 0 _ rfl)) ?_;clear Z a;intro a Z;refine go 2 Z I ?_;clear Z a;intro a Z;refine wp_seq ?_;refine y_region ?_;refine y_step rfl (fun _ h=>by cases h) (o_pure Z rfl rfl (p_move rfl).run ?_);clear Z a;intro a Z;refine y_step rfl (fun _ h=>by cases h) (o_pure Z rfl rfl (p_move rfl).run ?_);clear Z a;intro a Z;obtain ⟨rr,hl0,hz0,hround⟩:=hR.round i x_3 _ ms1 _ w hx_3 hD1 hJ1 I;refine y_yield Z rfl rfl rfl rfl rfl rfl hl0 hz0 (hround.mono ?_);clear hl0 hz0 hround rr I Z a w;rintro en w ⟨D9,ms9,rfl,hD9,hJ9,I⟩;refine ⟨_,rfl, ?_⟩;intro a Z;refine y_step rfl (fun _ h=>by cases h) (o_pure Z rfl rfl (p_not rfl).run ?_);clear Z a;intro a Z;refine y_nil ?_;refine gc 6 Z ?_;refine zs Z (p_arith (z:=((i+1:Nat):Int)) rfl rfl (add_z (by omega) (by omega) (by omega))) ?_;clear Z a;intro a Z;refine go 2 Z I ?_;clear Z a;intro a Z;exact ⟨(D9,ms9,i+1),Z.pick [0,5,6,7],⟨hD1.trans hD9,by show i+1<=xs.length;omega,hJ9,I⟩,by show xs.length - (i+1)<xs.length - i;omega⟩
 intro hlt;replace hlt:=lss_f hlt;clear Z a;intro a Z;refine gc 7 Z ?_;refine ret0 rfl Z ?_;have hix:i=xs.length:=by omega
 subst hix;exact ⟨_,ms1,hD1,hJ1,I⟩
end Go.Proofs.YtefaghnlmmgpcaaGreatDoor.B
