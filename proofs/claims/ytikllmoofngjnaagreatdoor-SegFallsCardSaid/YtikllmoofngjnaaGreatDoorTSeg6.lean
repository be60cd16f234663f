/- What functions of the program compute, each function once: steps over the model, and the plain law of it. -/
import Derived.Test.YtikllmoofngjnaaGreatDoorTSeg5
import Derived.Test.YtikllmoofngjnaaGreatDoorTFacts
namespace Go.Proofs.YtikllmoofngjnaaGreatDoor.B
open Go Go.Proofs
set_option linter.unusedVariables false
set_option linter.unusedSimpArgs false
set_option maxRecDepth 20000
set_option maxHeartbeats 8000000
def L0 (d:Dk) (gr:Int):Lg:={d:=d,h:={group:=gr}}
def bornC (inc:Int) (b:Bool):Cl:={kind:=4,s:={inc:=inc,whole:=b}}
theorem bornC_ok {inc:Int} {b:Bool} (h1:1<=inc) (h2:inc<=1073741824):(bornC inc b).Ok:=
 ⟨(by decide:(0:Int)<=4/\(4:Int)<=5),(by decide:(0:Int)<=0/\(0:Int)<=1073741824),(by decide:(0:Int)<=0/\(0:Int)<=1073741824),⟨by show 0<=inc;omega,h2⟩,(by decide:(0:Int)<=0/\(0:Int)<=1099511627776),spansOk.nil,⟨Nat.zero_le _,fun r hr=>by cases hr⟩⟩
theorem bornC_len {inc:Int} {b:Bool} (h1:1<=inc) (h2:inc<=1073741824):(bornC inc b).b.length<=244:=Nat.le_trans (Cl.b_len0 (bornC_ok h1 h2) rfl rfl) (by decide)
structure Dk.Fresh (d:Dk):Prop where
 pe:d.pe=fun _=>none
 sy:d.sy=fun _=>none
 top:d.top=0
 calls:d.calls=0
 b0:2<=d.blocks
 b1:d.blocks<=16384
 arm:d.arm=0
theorem Dk.Fresh.new {n:Int} (h0:2<=n) (h1:n<=16384):(Dk.new n).Fresh:=⟨rfl,rfl,rfl,rfl,h0,h1,rfl⟩
theorem Dk.Fresh.good {d:Dk} (h:d.Fresh) (gr:Int):(L0 d gr).Good:=
 ⟨h.pe,by show d.top<=((0:Nat):Int);rw [h.top];decide,h.b1,by show 0<=d.calls/\d.calls<=4*((0:Nat):Int)+1000;rw [h.calls];decide,Nat.zero_le _,rfl,⟨Nat.zero_le _,Nat.zero_le _⟩,Nat.zero_le _,by show (d.arm=0\/3<=d.arm)/\d.arm<=1000;rw [h.arm];exact ⟨.inl rfl,by decide⟩⟩
def bornD (d:Dk) (inc:Int) (b:Bool):Dk:=(d.wr ((0:Nat):Int) (le4 0++(le4 0++(le4 1++(bornC inc b).b)))).sync
def bornS (d:Dk) (gr inc:Int) (b:Bool):Lg:={d:=bornD d inc b,s:={inc:=inc,whole:=b},h:={group:=gr},end_:=1,calls:=1}
theorem bornS_good {d:Dk} (h:d.Fresh) (gr inc:Int) (b:Bool):(bornS d gr inc b).Good:=by have:=(h.good gr).laid (c:=bornC inc b) (x':={inc:=inc,whole:=b}) (h':={group:=gr}) (by show 0<100000;decide) ⟨Nat.zero_le _,Nat.zero_le _⟩ (Nat.zero_le _) h.arm;exact this
theorem plays0 {ad:Nat->Addr} {d:Dk} (h:d.Fresh) (gr:Int):Plays ad d gr 0 (fun _=>L0 d gr) (fun _=>{kind:=0}):=
 ⟨rfl,fun i hi=>(h.good gr).fair,h.good gr,fun i hi=>rfl,fun i hi=>by show 0=i;omega,fun i hi=>absurd hi (Nat.not_lt_zero _),fun i hi=>absurd hi (Nat.not_lt_zero _),fun i hi=>absurd hi (Nat.not_lt_zero _),fun i hi=>absurd hi (Nat.not_lt_zero _), .inr ⟨by have:=h.b0;show ((0:Nat):Int)<d.blocks;omega,by unfold Dk.rd;rw [h.pe,h.sy]⟩,by have:=h.b0;show ((0:Nat):Int)<=d.blocks;omega,by have:=h.b0;omega⟩
theorem plays1 {ad:Nat->Addr} {d:Dk} (h:d.Fresh) {gr inc:Int} {b:Bool} (h1:1<=inc) (h2:inc<=1073741824):Plays ad (bornD d inc b) gr 1 (fun i=>if i=0 then L0 (bornD d inc b) gr else bornS d gr inc b) (fun _=>bornC inc b):=by
 have hrd:=Dk.rd_wr h.pe ((0:Nat):Int) (le4 0++(le4 0++(le4 1++(bornC inc b).b)));have hG:=bornS_good h gr inc b;refine ⟨rfl,fun i hi=> ?_,hG,fun i hi=> ?_,fun i hi=> ?_,fun i hi=> ?_,fun i hi=>bornC_len h1 h2,fun i hi=>read_birth (bornC_ok h1 h2) rfl rfl,fun i hi=> ?_, .inr ⟨?_, ?_⟩, ?_, ?_⟩
 ·split
  ·exact ⟨Nat.zero_le _,rfl⟩
  exact hG.fair
 ·split<;>rfl
 ·split
  ·rename_i e;rw [e];rfl
  show 1=i;omega
 ·obtain rfl:i=0:=by omega
  show (bornD d inc b).rd ((0:Nat):Int)=_;unfold bornD;rw [hrd,if_pos rfl]
 ·obtain rfl:i=0:=by omega
  exact do_birth (x:={}) (h:={group:=gr}) (c:=bornC inc b) rfl rfl
 ·have:=h.b0;show ((1:Nat):Int)<d.blocks;omega
 ·show (bornD d inc b).rd ((1:Nat):Int)=none;unfold bornD;rw [hrd,if_neg (by decide)];unfold Dk.rd;rw [h.pe,h.sy]
 ·have:=h.b0;show ((1:Nat):Int)<=d.blocks;omega
 have:=h.b0;show 0<d.blocks;omega
theorem Born_spec {w0 w:World} {D:Sto} {ss:List Seg} {s:Seg} {vl vd:Value} {d:Dk} {gr:Int} (I:Inv w0 D (s::ss) w) (hL:LgS D vl vd (L0 d gr) s) (hd0:d.Fresh) {inc:Int} {b:Bool} (h1:1<=inc) (h2:inc<=1073741824) :
  Calls Tryz.prog 27 #[vl, .int .i64 inc, .bool b] w (Ret fun r w'=> ∃D' s',r= .nilIface/\Le D D'/\LgS D' vl vd (bornS d gr inc b) s'/\Inv w0 D' (s'::ss) w'):=by
 obtain ⟨bl,vs,vh,sd,sh,rfl,rfl,hvs,hd,hh⟩:=hL;obtain ⟨A1,c2,rfl,_⟩:=hvs.slice;replace I:Inv w0 D ([(bl, .cells #[vd, .int .i64 (L0 d gr).s.promise, .int .i64 (L0 d gr).s.installed, .int .i64 (L0 d gr).s.inc, .bool (L0 d gr).s.whole, .int .i64 (L0 d gr).s.floor, .slice A1 (L0 d gr).s.spans.length c2,vh, .int .i64 ((L0 d gr).end_:Nat), .int .i64 ((L0 d gr).calls:Nat)] 112 (0,0))]::sd::sh::ss) w:=Inv.three.1 I;refine enter (N:=37) Tryz.func27 rfl rfl rfl ?_;intro a Z;refine go 7 Z I ?_;clear Z a;intro a Z;refine zs Z (p_nilCheck rfl) ?_;clear Z a;intro a Z;refine zs Z (p_fieldAddr (m:=1) rfl fo_112_1 rfl) ?_;clear Z a;intro a Z;refine zl Z (f_loadA (vs:= [_,_,_,_,_,_]) rfl agg_53 (I.seg 0 rfl) rfl rfl) ?_;clear Z a;intro a Z;refine l_step rfl (o_call Z rfl rfl rfl rfl ent_60 (StEmpty_spec I hvs) ?_);clear I Z a;rintro r w ⟨rfl,I⟩ a Z;refine zs Z (p_not rfl) ?_;clear Z a;intro a Z;refine go 2 Z I ?_;clear Z a;intro a Z;refine gs Z (p_nilCheck rfl) ?_;clear Z a;intro a Z;refine go 2 Z I ?_;clear Z a;intro a Z;refine l_go Z rfl (o_call Z rfl rfl rfl rfl ent_21 (HLen_spec (I.bring 2) hh) ?_);clear I Z a;rintro r w ⟨rfl,I⟩ a Z;replace I:=I.put_back 2;(try simp only [nrm,Value.cells] at I);refine gs Z (p_cmp rfl rfl (gtr_n (by simp [L0]))) ?_;clear Z a;intro a Z;refine go 6 Z I ?_;clear Z a;intro a Z;refine zs Z (p_cmp rfl rfl (lss_n (by omega))) ?_;clear Z a;intro a Z;refine go 2 Z I ?_;clear Z a;intro a Z;refine gs Z (p_cmp rfl rfl (gtr_n (by omega))) ?_;clear Z a;intro a Z;refine go 11 Z I ?_;clear Z a;intro a Z;refine zs Z (f_build (vs:= [(2,_),(3,_)]) (l:= [_,_,_,_,_,_]) rfl built_53 rfl) ?_;clear Z a;intro a Z;refine zs Z (f_build (vs:= [(0,_),(1,_)]) (l:= [_,_,_,_,_,_,_,_,_]) rfl built_114 rfl) ?_;clear Z a;intro a Z;obtain ⟨s9,hL3,hI9⟩: ∃s9,LgS D (.pointer (some ⟨bl,0,none⟩)) vd (L0 d gr) s9/\Inv w0 D (s9::ss) _:=⟨_,⟨bl,_,_,_,_,rfl,rfl,hvs,hd,hh⟩,Inv.three.2 I⟩;clear I;have I:=hI9;clear hI9;refine l_step rfl (o_call Z rfl rfl rfl rfl ent_61 (Lay_spec (c:=bornC inc b) I hL3 (hd0.good gr) ⟨_,_,rfl,DR.nil _ _ _,DR.nil _ _ _⟩ (bornC_ok h1 h2) (bornC_len h1 h2) (by show ((0:Nat):Int)<d.blocks;have:=hd0.b0;omega) (do_birth rfl rfl)) ?_);clear I Z a;rintro r w ⟨D4,s7,rfl,hD5,hL6,I⟩ a Z;refine go 3 Z I ?_;clear Z a;intro a Z;refine rt1 Z ?_;exact ⟨_,_,rfl,hD5,hL6,I⟩
theorem SegNew_spec {w0 w:World} {D:Sto} {ss:List Seg} {s:Seg} {vd:Value} {d:Dk} (I:Inv w0 D (s::ss) w) (hd:DkS D vd d s) {ad:Nat->Addr} (hS:YSents D ad) {id gr inc:Int} (hi0:0<=id) (hi1:id<64) (h0:0<=gr) (h1:gr<4) {n:Nat} (hn:0<n) {Ls:Nat->Lg} {cs:Nat->Cl} (hP:Plays ad d gr n Ls cs) :
  Calls Tryz.prog 16 #[.int .i64 id, .int .i64 gr,vd, .int .i64 inc] w (Ret fun r w'=> ∃bs vl bt D' sl,r= .tuple #[.pointer (some ⟨bs,0,none⟩), .nilIface]/\Le D D'/\LgS D' vl vd (Ls n) sl/\Inv w0 D' ([(bs, .cells #[.int .i64 id, .int .i64 gr,vl, .map (some bt)] 80 (0,0))]::sl:: [(bt, .map #[] 0)]::ss) w'):=by
 obtain ⟨bd,rfl⟩: ∃bd,vd= .pointer (some ⟨bd,0,none⟩):=by obtain ⟨bd,_,_,_,_,_,_,_,_,h,_⟩:=hd;exact ⟨bd,h⟩
 refine enter (N:=52) Tryz.func16 rfl rfl rfl ?_;intro a Z;refine go 7 Z I ?_;clear Z a;intro a Z;refine zs Z (p_cmp rfl rfl (lss_n (by omega))) ?_;clear Z a;intro a Z;refine go 2 Z I ?_;clear Z a;intro a Z;refine gs Z (p_cmp rfl rfl (geq_n (by omega))) ?_;clear Z a;intro a Z;refine go 3 Z I ?_;clear Z a;intro a Z;refine gs Z (p_cmp rfl rfl (lss_n (by omega))) ?_;clear Z a;intro a Z;refine go 3 Z I ?_;clear Z a;intro a Z;refine gs Z (p_cmp rfl rfl (geq_n (by omega))) ?_;clear Z a;intro a Z;refine go 8 Z I ?_;clear Z a;intro a Z;refine l_step rfl (o_call Z rfl rfl rfl rfl ent_26 (Open_spec I hd hS h0 h1 hP) ?_);clear I Z a;rintro r w ⟨vl1,D2,s3,rfl,hD4,hL5,I⟩ a Z;obtain ⟨bl6,rfl⟩: ∃bl,vl1= .pointer (some ⟨bl,0,none⟩):=by obtain ⟨bl,_,_,_,_,h,_⟩:=hL5;exact ⟨bl,h⟩
 refine go 17 Z I ?_;clear Z a;intro a Z;refine l_step rfl (o_call Z rfl rfl rfl rfl ent_39 (LBlocks_spec I hL5) ?_);clear I Z a;rintro r w ⟨rfl,I⟩ a Z;refine zs Z (p_cmp rfl rfl (eql_n (by rw [hP.fin n (Nat.le_refl _)];omega))) ?_;clear Z a;intro a Z;refine go 8 Z I ?_;clear Z a;intro a Z;refine l_step rfl (f_makeMap Z I rfl rfl rfl ?_);clear I Z a w;intro a b7 w Z I;refine zs Z (f_build (vs:= [(0,_),(1,_),(2,_),(3,_)]) (l:= [_,_,_,_]) rfl built_80 rfl) ?_;clear Z a;intro a Z;refine l_step rfl (f_box (cs:= #[_,_,_,_]) Z I rfl rfl rfl rfl rfl ?_);clear I Z a w;intro a b8 w Z I;refine go 4 Z I ?_;clear Z a;intro a Z;refine ret2 rfl Z rfl rfl ?_;replace I:=I.bring 1;replace I:=I.bring 2;replace I:=I.bring 2;exact ⟨_,_,_,D2,_,rfl,hD4,hL5,I⟩
end Go.Proofs.YtikllmoofngjnaaGreatDoor.B
