/- What functions of the program compute, each function once: steps over the model, and the plain law of it. -/
import Derived.Test.YtikllmoofngjnaaGreatDoorTWireMath
import Derived.Test.YtikllmoofngjnaaGreatDoorProg
import Derived.Test.YtikllmoofngjnaaGreatDoorTFacts
namespace Go.Proofs.YtikllmoofngjnaaGreatDoor.B
open Go Go.Proofs
set_option linter.unusedVariables false
set_option linter.unusedSimpArgs false
set_option maxRecDepth 20000
set_option maxHeartbeats 8000000
structure Sents (D:Sto) (ad:Nat->Addr):Prop where
 g101:GlobIs D 9 (errV ad 101)
 g102:GlobIs D 10 (errV ad 102)
 g103:GlobIs D 4 (errV ad 103)
 g104:GlobIs D 3 (errV ad 104)
 g105:GlobIs D 0 (errV ad 105)
 g106:GlobIs D 2 (errV ad 106)
 g107:GlobIs D 8 (errV ad 107)
 g108:GlobIs D 7 (errV ad 108)
 g109:GlobIs D 6 (errV ad 109)
 g110:GlobIs D 5 (errV ad 110)
 g111:GlobIs D 1 (errV ad 111)
 g112:GlobIs D 11 (errV ad 112)
 g113:GlobIs D 12 (errV ad 113)
 g114:GlobIs D 13 (errV ad 114)
 g115:GlobIs D 14 (errV ad 115)
 g116:GlobIs D 15 (errV ad 116)
 g117:GlobIs D 16 (errV ad 117)
 ne: ∀j k,101<=j->j<=117->101<=k->k<=117->j≠k->ad j≠ad k
 cell: ∀k,101<=k->k<=117-> ∃c T,D (ad k).block=some (.cells c T (0,0))
theorem Sents.mono {D D':Sto} {ad:Nat->Addr} (h:Sents D ad) (hD:Le D D'):Sents D' ad:=
 ⟨h.g101.mono hD,h.g102.mono hD,h.g103.mono hD,h.g104.mono hD,h.g105.mono hD,h.g106.mono hD,h.g107.mono hD,h.g108.mono hD,h.g109.mono hD,h.g110.mono hD,h.g111.mono hD,h.g112.mono hD,h.g113.mono hD,h.g114.mono hD,h.g115.mono hD,h.g116.mono hD,h.g117.mono hD,h.ne,fun k h1 h2=>by obtain ⟨c,T,hc⟩:=h.cell k h1 h2;exact ⟨c,T,hD _ _ hc⟩⟩
def Flt.c:Flt->Int
 | .none=>0
 | .bare c=>(c:Nat)
 | .at_ c _=>(c:Nat)
def Flt.b:Flt->Bool
 | .at_ _ _=>true
 |_=>false
def Flt.p:Flt->Int
 | .at_ _ p=>p
 |_=>0
def Flt.Ok:Flt->Prop
 | .none=>True
 | .bare c=>101<=c/\c<=117
 | .at_ c _=>101<=c/\c<=117
theorem sent_at {ad:Nat->Addr} {i:Nat} (h:i<17):(#[errV ad 101,errV ad 102,errV ad 103,errV ad 104,errV ad 105,errV ad 106,errV ad 107,errV ad 108,errV ad 109,errV ad 110,errV ad 111,errV ad 112,errV ad 113,errV ad 114,errV ad 115,errV ad 116,errV ad 117]:Array Value)[0+((i:Nat):Int).toNat*1]? =some (errV ad (101+i)):=by
 have e:0+((i:Nat):Int).toNat*1=i:=by omega
 rw [e]
 match i,h with
 |0,_|1,_|2,_|3,_|4,_|5,_|6,_|7,_|8,_|9,_|10,_|11,_|12,_|13,_|14,_|15,_|16,_=>rfl
 |n+17,h=>omega
theorem None_spec {w0 w:World} {D:Sto} {ss:List Seg} (I:Inv w0 D ss w) :
  Calls Tryz.prog 126 #[] w (Ret fun r w'=>r= .agg #[.int .i64 0, .bool false, .int .i64 0]/\Inv w0 D ss w'):=by
 refine enter (N:=2) Tryz.func126 rfl rfl rfl ?_;intro a Z;refine wsr ?_;refine l_step rfl (f_alloc (cs:= #[.int .i64 0, .bool false, .int .i64 0]) Z I rfl rfl rfl zer_90 rfl ?_);clear I Z a w;intro a b1 w Z I;refine gc 2 Z ?_;refine zs Z (f_build (vs:= []) (l:= [_,_,_]) rfl built_90 rfl) ?_;clear Z a;intro a Z;refine l_step rfl (f_store (l:= [_,_,_]) (ss':=_::_) 0 Z I rfl rfl rfl rfl rfl sz_90 (by simp [Value.cells,Value.oneCell']) rfl rfl rfl ?_);clear I w;intro w I;refine gc 2 Z ?_;refine retc1 rfl Z rfl agg_90 (I.seg 0 rfl) rfl ?_;exact ⟨rfl,I.drop⟩
theorem Bare_spec {w0 w:World} {D:Sto} {ss:List Seg} (I:Inv w0 D ss w) (c:Int) :
  Calls Tryz.prog 36 #[.int .i64 c] w (Ret fun r w'=>r= .agg #[.int .i64 c, .bool false, .int .i64 0]/\Inv w0 D ss w'):=by
 refine enter (N:=5) Tryz.func36 rfl rfl rfl ?_;intro a Z;refine wsr ?_;refine l_step rfl (f_alloc (cs:= #[.int .i64 0, .bool false, .int .i64 0]) Z I rfl rfl rfl zer_90 rfl ?_);clear I Z a w;intro a b1 w Z I;refine go 3 Z I ?_;clear Z a;intro a Z;refine zs Z (f_build (vs:= [(0,_)]) (l:= [_,_,_]) rfl built_90 rfl) ?_;clear Z a;intro a Z;refine l_step rfl (f_store (l:= [_,_,_]) (ss':=_::_) 0 Z I rfl rfl rfl rfl rfl sz_90 (by simp [Value.cells,Value.oneCell']) rfl rfl rfl ?_);clear I w;intro w I;refine gc 2 Z ?_;refine retc1 rfl Z rfl agg_90 (I.seg 0 rfl) rfl ?_;exact ⟨rfl,I.drop⟩
theorem Placed_spec {w0 w:World} {D:Sto} {ss:List Seg} (I:Inv w0 D ss w) {c:Int} (hc:c≠0) (p:Int) :
  Calls Tryz.prog 128 #[.int .i64 c, .int .i64 p] w (Ret fun r w'=>r= .agg #[.int .i64 c, .bool true, .int .i64 p]/\Inv w0 D ss w'):=by
 refine enter (N:=11) Tryz.func128 rfl rfl rfl ?_;intro a Z;refine wsr ?_;refine l_step rfl (f_alloc (cs:= #[.int .i64 0, .bool false, .int .i64 0]) Z I rfl rfl rfl zer_90 rfl ?_);clear I Z a w;intro a b1 w Z I;refine go 4 Z I ?_;clear Z a;intro a Z;refine zs Z (p_cmp rfl rfl (eql_n (hc))) ?_;clear Z a;intro a Z;refine go 7 Z I ?_;clear Z a;intro a Z;refine zs Z (f_build (vs:= [(0,_),(1,_),(2,_)]) (l:= [_,_,_]) rfl built_90 rfl) ?_;clear Z a;intro a Z;refine l_step rfl (f_store (l:= [_,_,_]) (ss':=_::_) 0 Z I rfl rfl rfl rfl rfl sz_90 (by simp [Value.cells,Value.oneCell']) rfl rfl rfl ?_);clear I w;intro w I;refine gc 2 Z ?_;refine retc1 rfl Z rfl agg_90 (I.seg 0 rfl) rfl ?_;exact ⟨rfl,I.drop⟩
theorem SameFault_spec {w0 w:World} {D:Sto} {ss:List Seg} (I:Inv w0 D ss w) (c:Int) (b:Bool) (p c':Int) (b':Bool) (p':Int) :
  Calls Tryz.prog 81 #[.agg #[.int .i64 c, .bool b, .int .i64 p], .agg #[.int .i64 c', .bool b', .int .i64 p']] w (Ret fun r w'=>r= .bool (decide (c=c'/\b=b'/\p=p'))/\Inv w0 D ss w'):=by
 obtain ⟨p1,hb⟩: ∃p:Prop,b=true↔p:=⟨_,Iff.rfl⟩;obtain ⟨p2,hb'⟩: ∃p:Prop,b'=true↔p:=⟨_,Iff.rfl⟩;refine enter (N:=24) Tryz.func81 rfl rfl rfl ?_;intro a Z;refine wsr ?_;refine l_step rfl (f_box (cs:= #[_,_,_]) Z I rfl rfl rfl rfl rfl ?_);clear I Z a w;intro a b1 w Z I;refine l_step rfl (f_box (cs:= #[_,_,_]) Z I rfl rfl rfl rfl rfl ?_);clear I Z a w;intro a b2 w Z I;refine go 7 Z I ?_;clear Z a;intro a Z;refine cmx Z ?_ ?_
 ·intro h1;replace h1:=eql_t h1;clear Z a;intro a Z;refine go 5 Z I ?_;clear Z a;intro a Z;rcases Bool.eq_false_or_eq_true b with rfl|rfl
  ·replace hb:=iff_t hb;rcases Bool.eq_false_or_eq_true b' with rfl|rfl
   ·replace hb':=iff_t hb';refine gs Z (p_boolEq Tryz.underlying4 rfl rfl rfl) ?_;clear Z a;intro a Z;refine go 6 Z I ?_;clear Z a;intro a Z;refine cgx Z ?_ ?_
    ·intro h2;replace h2:=eql_t h2;clear Z a;intro a Z;refine go 4 Z I ?_;clear Z a;intro a Z;refine rt1 Z ?_;exact ⟨by simp [*],I.drop.drop⟩
    intro h2;replace h2:=eql_f h2;clear Z a;intro a Z;refine go 4 Z I ?_;clear Z a;intro a Z;refine rt1 Z ?_;exact ⟨by simp [*],I.drop.drop⟩
   replace hb':=iff_f hb';refine gs Z (p_boolEq Tryz.underlying4 rfl rfl rfl) ?_;clear Z a;intro a Z;refine go 11 Z I ?_;clear Z a;intro a Z;refine rt1 Z ?_;exact ⟨by simp [*],I.drop.drop⟩
  replace hb:=iff_f hb;rcases Bool.eq_false_or_eq_true b' with rfl|rfl
  ·replace hb':=iff_t hb';refine gs Z (p_boolEq Tryz.underlying4 rfl rfl rfl) ?_;clear Z a;intro a Z;refine go 11 Z I ?_;clear Z a;intro a Z;refine rt1 Z ?_;exact ⟨by simp [*],I.drop.drop⟩
  replace hb':=iff_f hb';refine gs Z (p_boolEq Tryz.underlying4 rfl rfl rfl) ?_;clear Z a;intro a Z;refine go 6 Z I ?_;clear Z a;intro a Z;refine cgx Z ?_ ?_
  ·intro h2;replace h2:=eql_t h2;clear Z a;intro a Z;refine go 4 Z I ?_;clear Z a;intro a Z;refine rt1 Z ?_;exact ⟨by simp [*],I.drop.drop⟩
  intro h2;replace h2:=eql_f h2;clear Z a;intro a Z;refine go 4 Z I ?_;clear Z a;intro a Z;refine rt1 Z ?_;exact ⟨by simp [*],I.drop.drop⟩
 intro h1;replace h1:=eql_f h1;clear Z a;intro a Z;refine go 17 Z I ?_;clear Z a;intro a Z;refine rt1 Z ?_;exact ⟨by simp [*],I.drop.drop⟩
set_option maxHeartbeats 1000000 in
theorem sentinels_spec {w0 w:World} {D:Sto} {ss:List Seg} (I:Inv w0 D ss w) {ad:Nat->Addr} (hS:Sents D ad) :
  Calls Tryz.prog 165 #[] w (Ret fun r w'=> ∃b,r= .slice (some ⟨b,0,none⟩) 17 17/\Inv w0 D ([(b, .cells #[errV ad 101,errV ad 102,errV ad 103,errV ad 104,errV ad 105,errV ad 106,errV ad 107,errV ad 108,errV ad 109,errV ad 110,errV ad 111,errV ad 112,errV ad 113,errV ad 114,errV ad 115,errV ad 116,errV ad 117] 45 (0,0))]::ss) w'):=by
 refine enter (N:=19) Tryz.func165 rfl rfl rfl ?_;intro a Z;refine go 4 Z I ?_;clear Z a;intro a Z;obtain ⟨T_1,fr_1,hg_1⟩:=hS.g101;refine zl Z (f_load rfl scal_45 (I.data _ _ (hg_1)) rfl) ?_;clear Z a;intro a Z;obtain ⟨T_2,fr_2,hg_2⟩:=hS.g102;refine zl Z (f_load rfl scal_45 (I.data _ _ (hg_2)) rfl) ?_;clear Z a;intro a Z;obtain ⟨T_3,fr_3,hg_3⟩:=hS.g103;refine zl Z (f_load rfl scal_45 (I.data _ _ (hg_3)) rfl) ?_;clear Z a;intro a Z;obtain ⟨T_4,fr_4,hg_4⟩:=hS.g104;refine zl Z (f_load rfl scal_45 (I.data _ _ (hg_4)) rfl) ?_;clear Z a;intro a Z;obtain ⟨T_5,fr_5,hg_5⟩:=hS.g105;refine zl Z (f_load rfl scal_45 (I.data _ _ (hg_5)) rfl) ?_;clear Z a;intro a Z;obtain ⟨T_6,fr_6,hg_6⟩:=hS.g106;refine zl Z (f_load rfl scal_45 (I.data _ _ (hg_6)) rfl) ?_;clear Z a;intro a Z;obtain ⟨T_7,fr_7,hg_7⟩:=hS.g107;refine zl Z (f_load rfl scal_45 (I.data _ _ (hg_7)) rfl) ?_;clear Z a;intro a Z;obtain ⟨T_8,fr_8,hg_8⟩:=hS.g108;refine zl Z (f_load rfl scal_45 (I.data _ _ (hg_8)) rfl) ?_;clear Z a;intro a Z;obtain ⟨T_9,fr_9,hg_9⟩:=hS.g109;refine zl Z (f_load rfl scal_45 (I.data _ _ (hg_9)) rfl) ?_;clear Z a;intro a Z;obtain ⟨T_10,fr_10,hg_10⟩:=hS.g110;refine zl Z (f_load rfl scal_45 (I.data _ _ (hg_10)) rfl) ?_;clear Z a;intro a Z;obtain ⟨T_11,fr_11,hg_11⟩:=hS.g111;refine zl Z (f_load rfl scal_45 (I.data _ _ (hg_11)) rfl) ?_;clear Z a;intro a Z;obtain ⟨T_12,fr_12,hg_12⟩:=hS.g112;refine zl Z (f_load rfl scal_45 (I.data _ _ (hg_12)) rfl) ?_;clear Z a;intro a Z;obtain ⟨T_13,fr_13,hg_13⟩:=hS.g113;refine zl Z (f_load rfl scal_45 (I.data _ _ (hg_13)) rfl) ?_;clear Z a;intro a Z;obtain ⟨T_14,fr_14,hg_14⟩:=hS.g114;refine zl Z (f_load rfl scal_45 (I.data _ _ (hg_14)) rfl) ?_;clear Z a;intro a Z;obtain ⟨T_15,fr_15,hg_15⟩:=hS.g115;refine zl Z (f_load rfl scal_45 (I.data _ _ (hg_15)) rfl) ?_;clear Z a;intro a Z;obtain ⟨T_16,fr_16,hg_16⟩:=hS.g116;refine zl Z (f_load rfl scal_45 (I.data _ _ (hg_16)) rfl) ?_;clear Z a;intro a Z;obtain ⟨T_17,fr_17,hg_17⟩:=hS.g117;refine zl Z (f_load rfl scal_45 (I.data _ _ (hg_17)) rfl) ?_;clear Z a;intro a Z;refine l_step rfl (f_lit (vs:= [(0,_),(1,_),(2,_),(3,_),(4,_),(5,_),(6,_),(7,_),(8,_),(9,_),(10,_),(11,_),(12,_),(13,_),(14,_),(15,_),(16,_)]) (l:= [_,_,_,_,_,_,_,_,_,_,_,_,_,_,_,_,_]) Z I rfl rfl rfl rfl Tryz.underlying224 zs_45 rfl rfl rfl ?_);clear I Z a w;intro a b18 w Z I;refine go 3 Z I ?_;clear Z a;intro a Z;refine rt1 Z ?_;exact ⟨_,rfl,I⟩
theorem Alike_spec {w0 w:World} {D:Sto} {ss:List Seg} (I:Inv w0 D ss w) {ad:Nat->Addr} (hS:Sents D ad) {j k:Nat} (hj1:101<=j) (hj2:j<=117) (hk1:101<=k) (hk2:k<=117) :
  Calls Tryz.prog 166 #[errV ad j,errV ad k] w (Ret fun r w'=>r= .bool (decide (j=k))/\Inv w0 D ss w'):=by
 refine enter (N:=20) Tryz.func166 rfl rfl rfl ?_;intro a Z;refine go 18 Z I ?_;clear Z a;intro a Z;by_cases hjk:j=k
 ·subst hjk;refine zs Z (p_eq rfl rfl (g_none rfl) (e_ptrSame Tryz.underlying45 ptr_283) rfl rfl) ?_;clear Z a;intro a Z;refine go 3 Z I ?_;clear Z a;intro a Z;refine rt1 Z ?_;exact ⟨by simp,I⟩
 obtain ⟨c1,T1,hc1⟩:=hS.cell j hj1 hj2;obtain ⟨c2,T2,hc2⟩:=hS.cell k hk1 hk2;refine zl Z (r_ptrOther Tryz.underlying45 ptr_283 rfl rfl (hS.ne j k hj1 hj2 hk1 hk2 hjk) (I.data _ _ (hc1)) (I.data _ _ (hc2)) rfl) ?_;clear Z a;intro a Z;refine go 3 Z I ?_;clear Z a;intro a Z;refine rt1 Z ?_;exact ⟨by simp [*],I⟩
theorem sentinel_spec {w0 w:World} {D:Sto} {ss:List Seg} (I:Inv w0 D ss w) {ad:Nat->Addr} (hS:Sents D ad) {j:Nat} (hj1:101<=j) (hj2:j<=117) :
  Calls Tryz.prog 127 #[errV ad j] w (Ret fun r w'=>r= .int .i64 (j:Nat)/\Inv w0 D ss w'):=by
 refine enter (N:=20) Tryz.func127 rfl rfl rfl ?_;intro a Z;refine go 4 Z I ?_;clear Z a;intro a Z;refine l_step rfl (o_call Z rfl rfl rfl rfl ent_165 (sentinels_spec I hS) ?_);clear I Z a;rintro r w ⟨b,rfl,I⟩ a Z;refine go 7 Z I ?_;clear Z a;intro a Z;refine c_loop (X:=Nat) (fun x=> [(0,_),(3,_),(4, .int .i64 (x:Nat))]) (fun x w=>101+x<=j/\Inv w0 D ([(b, .cells #[errV ad 101,errV ad 102,errV ad 103,errV ad 104,errV ad 105,errV ad 106,errV ad 107,errV ad 108,errV ad 109,errV ad 110,errV ad 111,errV ad 112,errV ad 113,errV ad 114,errV ad 115,errV ad 116,errV ad 117] 45 (0,0))]::ss) w) (fun x=>20 - x) 0 (Z.pick [0,3,4]) ⟨by omega,I⟩ ?_;clear Z I a w;rintro i a w Z ⟨hi,I⟩;(try dsimp only at Z);(try dsimp only at hi);(try dsimp only at I);refine go 4 Z I ?_;clear Z a;intro a Z;refine zs Z (p_len rfl rfl Tryz.underlying224) ?_;clear Z a;intro a Z;refine cmx Z ?_ ?_
 ·intro hlt;replace hlt:=lss_t hlt;clear Z a;intro a Z;refine go 10 Z I ?_;clear Z a;intro a Z;refine zs Z (p_indexAddr rfl rfl Tryz.underlying224 sz_45 (by omega) (by omega) rfl) ?_;clear Z a;intro a Z;refine zl Z (r_load rfl scal_45 (I.seg 0 rfl) (sent_at (by omega))) ?_;clear Z a;intro a Z;skip;refine l_step rfl (o_call Z rfl rfl rfl rfl ent_166 (Alike_spec (j:=j) (k:=101+i) I hS hj1 hj2 (by omega) (by omega)) ?_);clear I Z a;rintro r w ⟨rfl,I⟩ a Z;by_cases hjk:j=101+i
  ·rw [decide_eq_true hjk] at Z;refine go 4 Z I ?_;clear Z a;intro a Z;refine zs Z (p_arith (z:=((j:Nat):Int)) rfl rfl (add_z (by omega) (by omega) (by omega))) ?_;clear Z a;intro a Z;refine go 8 Z I ?_;clear Z a;intro a Z;refine rt1 Z ?_;exact ⟨rfl,I.drop⟩
  rw [decide_eq_false hjk] at Z;refine go 7 Z I ?_;clear Z a;intro a Z;refine zs Z (p_arith (z:=((i+1:Nat):Int)) rfl rfl (add_z (by omega) (by omega) (by omega))) ?_;clear Z a;intro a Z;refine go 2 Z I ?_;clear Z a;intro a Z;exact ⟨i+1,Z.pick [0,3,4],⟨by show 101+(i+1)<=j;omega,I⟩,by show 20 - (i+1)<20 - i;omega⟩
 intro hlt;replace hlt:=lss_f hlt;clear Z a;intro a Z;refine go 11 Z I ?_;clear Z a;intro a Z;refine rt1 Z ?_;omega
theorem Fault_none {w0 w:World} {D:Sto} {ss:List Seg} (I:Inv w0 D ss w) {ad:Nat->Addr} (hS:Sents D ad) :
  Calls Tryz.prog 82 #[.nilIface] w (Ret fun r w'=>r= .agg #[.int .i64 0, .bool false, .int .i64 0]/\Inv w0 D ss w'):=by
 refine enter (N:=38) Tryz.func82 rfl rfl rfl ?_;intro a Z;refine wsr ?_;refine l_step rfl (f_alloc (cs:= #[.int .i64 0, .bool false, .int .i64 0]) Z I rfl rfl rfl zer_90 rfl ?_);clear I Z a w;intro a b1 w Z I;refine go 8 Z I ?_;clear Z a;intro a Z;refine l_step rfl (o_call Z rfl rfl rfl rfl ent_126 (None_spec I) ?_);clear I Z a;rintro r w ⟨rfl,I⟩ a Z;refine l_step rfl (f_store (l:= [_,_,_]) (ss':=_::_) 0 Z I rfl rfl rfl rfl rfl sz_90 (by simp [Value.cells,Value.oneCell']) rfl rfl rfl ?_);clear I w;intro w I;refine gc 3 Z ?_;refine retc1 rfl Z rfl agg_90 (I.seg 0 rfl) rfl ?_;exact ⟨rfl,I.drop⟩
theorem Fault_bare {w0 w:World} {D:Sto} {ss:List Seg} (I:Inv w0 D ss w) {ad:Nat->Addr} (hS:Sents D ad) {c:Nat} (h1:101<=c) (h2:c<=117) :
  Calls Tryz.prog 82 #[errV ad c] w (Ret fun r w'=>r= .agg #[.int .i64 (c:Nat), .bool false, .int .i64 0]/\Inv w0 D ss w'):=by
 refine enter (N:=38) Tryz.func82 rfl rfl rfl ?_;intro a Z;refine wsr ?_;refine l_step rfl (f_alloc (cs:= #[.int .i64 0, .bool false, .int .i64 0]) Z I rfl rfl rfl zer_90 rfl ?_);clear I Z a w;intro a b1 w Z I;refine go 11 Z I ?_;clear Z a;intro a Z;refine zs Z (p_assertN rfl rfl Tryz.underlying125 rfl zer_125) ?_;clear Z a;intro a Z;refine go 9 Z I ?_;clear Z a;intro a Z;refine zs Z (p_not rfl) ?_;clear Z a;intro a Z;refine go 4 Z I ?_;clear Z a;intro a Z;refine l_step rfl (o_call Z rfl rfl rfl rfl ent_127 (sentinel_spec I hS h1 h2) ?_);clear I Z a;rintro r w ⟨rfl,I⟩ a Z;refine l_step rfl (o_call Z rfl rfl rfl rfl ent_36 (Bare_spec I c) ?_);clear I Z a;rintro r w ⟨rfl,I⟩ a Z;refine l_step rfl (f_store (l:= [_,_,_]) (ss':=_::_) 0 Z I rfl rfl rfl rfl rfl sz_90 (by simp [Value.cells,Value.oneCell']) rfl rfl rfl ?_);clear I w;intro w I;refine gc 3 Z ?_;refine retc1 rfl Z rfl agg_90 (I.seg 0 rfl) rfl ?_;exact ⟨rfl,I.drop⟩
theorem Fault_at {w0 w:World} {D:Sto} {ss:List Seg} (I:Inv w0 D ss w) {ad:Nat->Addr} (hS:Sents D ad) {c b:Nat} {p:Int} {T:Nat} {fr:Nat×Nat} (h1:101<=c) (h2:c<=117) (hD:D b=some (.cells #[.int .i64 p,errV ad c] T fr)) :
  Calls Tryz.prog 82 #[.iface 125 (.pointer (some ⟨b,0,none⟩))] w (Ret fun r w'=>r= .agg #[.int .i64 (c:Nat), .bool true, .int .i64 p]/\Inv w0 D ss w'):=by
 refine enter (N:=38) Tryz.func82 rfl rfl rfl ?_;intro a Z;refine wsr ?_;refine l_step rfl (f_alloc (cs:= #[.int .i64 0, .bool false, .int .i64 0]) Z I rfl rfl rfl zer_90 rfl ?_);clear I Z a w;intro a b1 w Z I;refine go 11 Z I ?_;clear Z a;intro a Z;refine zs Z (p_assertY rfl Tryz.underlying125 rfl) ?_;clear Z a;intro a Z;refine go 9 Z I ?_;clear Z a;intro a Z;refine zs Z (p_not rfl) ?_;clear Z a;intro a Z;refine go 7 Z I ?_;clear Z a;intro a Z;refine zs Z (p_eq rfl rfl (g_none rfl) (e_ptrNil Tryz.underlying125 rfl) rfl rfl) ?_;clear Z a;intro a Z;refine go 2 Z I ?_;clear Z a;intro a Z;refine gs Z (p_nilCheck rfl) ?_;clear Z a;intro a Z;refine gs Z (p_fieldAddr (m:=1) rfl fo_127_1 rfl) ?_;clear Z a;intro a Z;refine gl Z (f_load rfl scal_45 (I.data _ _ (hD)) rfl) ?_;clear Z a;intro a Z;refine go 6 Z I ?_;clear Z a;intro a Z;refine wp_seq ?_;refine d_start [4,9,10] [0] (by kernel_rfl) I rfl rfl ?_;clear I w;intro w I;refine dp 0 Z rfl (p_move rfl) (fun _=>(I.dropS [0])) (listed':= #[true,false,false,false,false,false,false,false,false,false,false]) ?_;clear Z a;intro a Z;refine dp 1 Z rfl (p_nilCheck rfl) (fun _=>(I.dropS [0])) ?_;clear Z a;intro a Z;refine dp 2 Z rfl (p_fieldAddr (m:=1) rfl fo_127_1 rfl) (fun _=>(I.dropS [0])) ?_;clear Z a;intro a Z;refine dl 3 Z rfl (fun w hS=>f_load rfl scal_45 (Inv.data hS _ _ (hD)) rfl) ((I.dropS [0])) ?_;clear Z a;intro a Z;refine dp 5 Z rfl (p_move rfl) (fun _=>(I.dropS [0])) ?_;clear Z a;intro a Z;refine dp 6 Z rfl (p_nilCheck rfl) (fun _=>(I.dropS [0])) ?_;clear Z a;intro a Z;refine dp 7 Z rfl (p_fieldAddr (m:=0) rfl fo_127_0 rfl) (fun _=>(I.dropS [0])) ?_;clear Z a;intro a Z;refine d_two 4 8 Z rfl rfl (by kernel_rfl) rfl rfl (listed':= #[true,true,true,true,true,true,true,true,false,false,false]) (listed'':= #[true,true,true,true,false,true,true,true,true,false,false]) rfl rfl ?_ ?_
 ·refine o_call Z rfl rfl rfl rfl ent_127 (sentinel_spec I hS h1 h2) ?_;clear I Z a;rintro r w ⟨rfl,I⟩ a Z;refine ⟨nl, ?_⟩;refine do1 8 Z rfl ?_;refine o_pure Z rfl rfl (f_load rfl scal_3 (I.data _ _ (hD)) rfl) ?_;clear Z a;intro a Z;refine ⟨nl, ?_⟩;refine do1 9 Z rfl ?_;refine o_call Z rfl rfl rfl rfl ent_128 (Placed_spec I (c:=(c:Nat)) (by omega) p) ?_;clear I Z a;rintro r w ⟨rfl,I⟩ a Z;refine ⟨nl, ?_⟩;refine do1 10 Z rfl ?_;refine f_store (l:= [_,_,_]) (ss':=_::_) 0 Z I rfl rfl rfl rfl rfl sz_90 (by simp [Value.cells,Value.oneCell']) rfl rfl rfl ?_;clear I w;intro w I;refine ⟨nl, ?_⟩;refine dnx ?_;refine gc 2 Z ?_;refine retc1 rfl Z rfl agg_90 (I.seg 0 rfl) rfl ?_;exact ⟨rfl,I.drop⟩
 refine o_pure Z rfl rfl (f_load rfl scal_3 (I.data _ _ (hD)) rfl) ?_;clear Z a;intro a Z;refine ⟨fun _=>(I.dropS [0]), ?_⟩;refine do1 4 Z rfl ?_;refine o_call Z rfl rfl rfl rfl ent_127 (sentinel_spec I hS h1 h2) ?_;clear I Z a;rintro r w ⟨rfl,I⟩ a Z;refine ⟨nl, ?_⟩;refine do1 9 Z rfl ?_;refine o_call Z rfl rfl rfl rfl ent_128 (Placed_spec I (c:=(c:Nat)) (by omega) p) ?_;clear I Z a;rintro r w ⟨rfl,I⟩ a Z;refine ⟨nl, ?_⟩;refine do1 10 Z rfl ?_;refine f_store (l:= [_,_,_]) (ss':=_::_) 0 Z I rfl rfl rfl rfl rfl sz_90 (by simp [Value.cells,Value.oneCell']) rfl rfl rfl ?_;clear I w;intro w I;refine ⟨nl, ?_⟩;refine dnx ?_;refine gc 2 Z ?_;refine retc1 rfl Z rfl agg_90 (I.seg 0 rfl) rfl ?_;exact ⟨rfl,I.drop⟩
theorem Fault_spec {w0 w:World} {D:Sto} {ss:List Seg} (I:Inv w0 D ss w) {ad:Nat->Addr} (hS:Sents D ad) {v:Value} {f:Flt} (hf:FltIs D ad v f) (hok:f.Ok) :
  Calls Tryz.prog 82 #[v] w (Ret fun r w'=>r= .agg #[.int .i64 f.c, .bool f.b, .int .i64 f.p]/\Inv w0 D ss w'):=by
 cases f with
 |none=>obtain rfl:=hf;exact Fault_none I hS
 |bare c=>obtain rfl:=hf;exact Fault_bare I hS hok.1 hok.2
 |at_ c p=>obtain ⟨b,T,fr,rfl,hD⟩:=hf;exact Fault_at I hS hok.1 hok.2 hD
theorem Same_spec {w0 w:World} {D:Sto} {ss:List Seg} (I:Inv w0 D ss w) {ad:Nat->Addr} (hS:Sents D ad) {v:Value} {f:Flt} (hf:FltIs D ad v f) (hok:f.Ok) (c:Int) (b:Bool) (p:Int) :
  Calls Tryz.prog 35 #[v, .agg #[.int .i64 c, .bool b, .int .i64 p]] w (Ret fun r w'=>r= .bool (decide (f.c=c/\f.b=b/\f.p=p))/\Inv w0 D ss w'):=by
 refine enter (N:=9) Tryz.func35 rfl rfl rfl ?_;intro a Z;refine wsr ?_;refine l_step rfl (f_box (cs:= #[_,_,_]) Z I rfl rfl rfl rfl rfl ?_);clear I Z a w;intro a b1 w Z I;refine go 2 Z I ?_;clear Z a;intro a Z;refine wp_seq ?_;refine d_start [1,3] [] (by kernel_rfl) I rfl rfl ?_;clear I w;intro w I;refine dp 0 Z rfl (p_move rfl) (fun _=>I) (listed':= #[true,false,false,false,false]) ?_;clear Z a;intro a Z;refine d_two 1 2 Z rfl rfl (by kernel_rfl) rfl rfl (listed':= #[true,true,false,false,false]) (listed'':= #[true,false,true,false,false]) rfl rfl ?_ ?_
 ·refine o_call Z rfl rfl rfl rfl ent_82 (Fault_spec I hS hf hok) ?_;clear I Z a;rintro r w ⟨rfl,I⟩ a Z;refine ⟨nl, ?_⟩;refine do1 2 Z rfl ?_;refine o_pure Z rfl rfl (f_loadA (vs:= [_,_,_]) rfl agg_90 (I.seg 0 rfl) rfl rfl) ?_;clear Z a;intro a Z;refine ⟨nl, ?_⟩;refine do1 3 Z rfl ?_;refine o_call Z rfl rfl rfl rfl ent_81 (SameFault_spec I _ _ _ _ _ _) ?_;clear I Z a;rintro r w ⟨rfl,I⟩ a Z;refine ⟨nl, ?_⟩;refine dp 4 Z rfl (p_assign rfl) nl ?_;clear Z a;intro a Z;refine dnx ?_;refine gc 2 Z ?_;refine rt1 Z ?_;exact ⟨rfl,I.drop⟩
 refine o_pure Z rfl rfl (f_loadA (vs:= [_,_,_]) rfl agg_90 (I.seg 0 rfl) rfl rfl) ?_;clear Z a;intro a Z;refine ⟨fun _=>I, ?_⟩;refine do1 1 Z rfl ?_;refine o_call Z rfl rfl rfl rfl ent_82 (Fault_spec I hS hf hok) ?_;clear I Z a;rintro r w ⟨rfl,I⟩ a Z;refine ⟨nl, ?_⟩;refine do1 3 Z rfl ?_;refine o_call Z rfl rfl rfl rfl ent_81 (SameFault_spec I _ _ _ _ _ _) ?_;clear I Z a;rintro r w ⟨rfl,I⟩ a Z;refine ⟨nl, ?_⟩;refine dp 4 Z rfl (p_assign rfl) nl ?_;clear Z a;intro a Z;refine dnx ?_;refine gc 2 Z ?_;refine rt1 Z ?_;exact ⟨rfl,I.drop⟩
theorem Is_spec {w0 w:World} {D:Sto} {ss:List Seg} (I:Inv w0 D ss w) {ad:Nat->Addr} (hS:Sents D ad) {v:Value} {f:Flt} (hf:FltIs D ad v f) (hok:f.Ok) (c:Int) :
  Calls Tryz.prog 13 #[v, .int .i64 c] w (Ret fun r w'=>r= .bool (decide (f.c=c/\f.b=false/\f.p=0))/\Inv w0 D ss w'):=by
 refine enter (N:=9) Tryz.func13 rfl rfl rfl ?_;intro a Z;refine go 6 Z I ?_;clear Z a;intro a Z;refine l_step rfl (o_call Z rfl rfl rfl rfl ent_36 (Bare_spec I c) ?_);clear I Z a;rintro r w ⟨rfl,I⟩ a Z;refine l_step rfl (o_call Z rfl rfl rfl rfl ent_35 (Same_spec I hS hf hok _ _ _) ?_);clear I Z a;rintro r w ⟨rfl,I⟩ a Z;refine go 3 Z I ?_;clear Z a;intro a Z;refine rt1 Z ?_;exact ⟨rfl,I⟩
end Go.Proofs.YtikllmoofngjnaaGreatDoor.B
