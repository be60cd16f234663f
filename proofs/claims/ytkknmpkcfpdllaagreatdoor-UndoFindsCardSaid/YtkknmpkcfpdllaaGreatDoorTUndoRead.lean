/- What functions of the program compute, each function once: steps over the model, and the plain law of it. -/
import Derived.Test.YtkknmpkcfpdllaaGreatDoorTUndoReadPure
import Derived.Test.YtkknmpkcfpdllaaGreatDoorTSee
import Derived.Test.YtkknmpkcfpdllaaGreatDoorTFacts
namespace Go.Proofs.YtkknmpkcfpdllaaGreatDoor.B
open Go Go.Proofs
set_option linter.unusedVariables false
set_option linter.unusedSimpArgs false
set_option maxRecDepth 20000
set_option maxHeartbeats 8000000
theorem OB.data {w0 w:World} {D:Sto} {ss:List Seg} {r:Value} {bs:List Nat} (h: ∃s,OB r bs s∧Inv w0 D (s::ss) w) (hb: ∀x∈bs,x<256): ∃D',Le D D'∧Inv w0 D' ss w∧RB D' r bs:=by obtain ⟨s,h1,hI⟩:=h;exact ⟨_,hI.le_shut,hI.shut,Row.shut_bytes h1 hb⟩
theorem Ret.imp {R R':Value→World→Prop} {e:Ending} {w:World} (h:Ret R e w) (hi: ∀r w,R r w→R' r w):Ret R' e w:=by obtain ⟨r,he,hr⟩:=h;exact ⟨r,he,hi _ _ hr⟩
theorem Clone_data {w0 w:World} {D:Sto} {ss:List Seg} (hI:Inv w0 D ss w) {vb:Value} {bs:List Nat} (hb:RB D vb bs) (hm:bs.length≤140737488355328) :
  Calls Tryz.prog 73 #[vb] w (Ret fun r w'=> ∃D',Le D D'∧Inv w0 D' ss w'∧RB D' r bs):=
 (Clone_spec hI hb hm).mono fun _ _ h=>h.imp fun _ _ h=>OB.data h hb.lt
theorem Put_data {w0 w:World} {D:Sto} {ss:List Seg} (hI:Inv w0 D ss w) {vb:Value} {bs:List Nat} {m:Int} (hb:RB D vb bs) (hm:bs.length≤140737488355000) (h0: -9223372036854775808≤m) (h1:m≤9223372036854775807) :
  Calls Tryz.prog 68 #[vb, .int .i64 m] w (Ret fun r w'=> ∃D',Le D D'∧Inv w0 D' ss w'∧RB D' r (bs++putZ m)):=
 (Put_spec hI hb hm h0 h1).mono fun _ _ h=>h.imp fun _ _ h=>OB.data h (fun x hx=>by rcases List.mem_append.1 hx with h|h;exact hb.lt x h;exact putZ_lt _ x h)
theorem PutBytes_data {w0 w:World} {D:Sto} {ss:List Seg} (hI:Inv w0 D ss w) {vb vx:Value} {bs xs:List Nat} (hb:RB D vb bs) (hx:RB D vx xs) (hm:bs.length+xs.length≤140737488355000) :
  Calls Tryz.prog 67 #[vb,vx] w (Ret fun r w'=> ∃D',Le D D'∧Inv w0 D' ss w'∧RB D' r (bs++putZ (xs.length:Nat)++xs)):=
 (PutBytes_spec hI hb hx hm).mono fun _ _ h=>h.imp fun _ _ h=>OB.data h (fun x hx'=>by
  simp only [List.mem_append] at hx';rcases hx' with (h|h)|h
  ·exact hb.lt x h
  ·exact putZ_lt _ x h
  exact hx.lt x h)
theorem bytes_step {bs:List Nat} {i:Nat} (h:i<bs.length):bytesV (bs.take i)++(#[Value.int .u8 ((bs.getD ((i:Nat):Int).toNat 0:Nat):Int)]:Array Value).toList=bytesV (bs.take (i+1)):=by
 have e:bs.getD ((i:Nat):Int).toNat 0=bs[i]:=by rw [List.getD_eq_getElem?_getD];simp [List.getElem?_eq_getElem h]
 rw [List.take_add_one,List.getElem?_eq_getElem h,e,Option.toList_some];simp only [bytesV,List.map_append,List.map_cons,List.map_nil]
theorem shl8 {t:Nat} (h:t<72057594037927936):IntKind.u64.wrap (((t:Nat):Int)*2^min (Int.toNat 8) IntKind.u64.bits)=((t*256:Nat):Int):=by
 have e:(2:Int)^min (Int.toNat 8) IntKind.u64.bits=256:=by decide
 rw [e,u64_wrap];omega
theorem or_byte {t c s:Nat} (h:t<72057594037927936) (hc:c<256) (hs:s=t*256+c):arithZ .or .u64 ((t*256:Nat):Int) ((c:Nat):Int)=some ((s:Nat):Int):=by
 subst hs;simp only [arithZ,Option.some.injEq];have e1:(BitVec.ofInt IntKind.u64.bits ((t*256:Nat):Int) |||BitVec.ofInt IntKind.u64.bits ((c:Nat):Int)).toNat=t*256+c:=by
  rw [BitVec.toNat_or];simp only [BitVec.toNat_ofInt];have a1:(((t*256:Nat):Int) % ((2^IntKind.u64.bits:Nat):Int)).toNat=t*256:=by show (((t*256:Nat):Int) % ((2^64:Nat):Int)).toNat=_;omega
  have a2:(((c:Nat):Int) % ((2^IntKind.u64.bits:Nat):Int)).toNat=c:=by show (((c:Nat):Int) % ((2^64:Nat):Int)).toNat=_;omega
  rw [a1,a2];have:=Nat.two_pow_add_eq_or_of_lt (i:=8) hc t;rw [Nat.mul_comm t];simpa using this.symm
 rw [e1,u64_wrap];omega
theorem val_take_step {l:List Nat} {i:Nat} (h:i<l.length):valL (l.take (i+1))=valL (l.take i)*256+l.getD ((i:Nat):Int).toNat 0:=by rw [List.take_add_one,List.getElem?_eq_getElem h,Option.toList_some,valL_snoc];simp [List.getD_eq_getElem?_getD,List.getElem?_eq_getElem h]
theorem val_take8 {bs:List Nat} (hb: ∀x∈bs,x<256) {k:Nat} (hk:k≤7):valL (((bs.drop 1).take 8).take k)<72057594037927936:=by
 have h1:=valL_lt (((bs.drop 1).take 8).take k) (fun x hx=>hb x (List.mem_of_mem_drop (List.mem_of_mem_take (List.mem_of_mem_take hx))));have h2:(((bs.drop 1).take 8).take k).length≤k:=by simp;omega
 have h3:256^(((bs.drop 1).take 8).take k).length≤256^k:=Nat.pow_le_pow_right (by omega) h2;have h4:(256:Nat)^k≤256^7:=Nat.pow_le_pow_right (by omega) (by omega);have:(256:Nat)^7=72057594037927936:=by decide
 omega
theorem zero_at {bs:List Nat} (h:((bs.getD (Int.toNat 0) 0:Nat):Int)=117):bs.getD 0 0=117:=by have:((bs.getD 0 0:Nat):Int)=117:=h;omega
theorem zero_ne {bs:List Nat} (h:((bs.getD (Int.toNat 0) 0:Nat):Int)≠117):bs.getD 0 0≠117:=fun e=>h (by show ((bs.getD 0 0:Nat):Int)=117;omega)
theorem plain_spec {w0 w:World} {D:Sto} {ss:List Seg} (hI:Inv w0 D ss w) (tx n:Int) {vk vv:Value} {key value:List Nat} (had:Bool) (hk:RB D vk key) (hv:RB D vv value) :
  Calls Tryz.prog 30 #[.agg #[.int .i64 tx, .int .i64 n,vk, .bool had,vv]] w (Ret fun r w'=>r= .agg #[.int .i64 tx, .int .i64 n,vk, .bool had,vv]∧Inv w0 D ss w'):=by
 obtain ⟨Ak,ck,rfl,_⟩:=hk.slice;obtain ⟨Av,cv,rfl,_⟩:=hv.slice;have hhad:had=true↔had=true:=Iff.rfl;refine enter (N:=14) Tryz.func30 rfl rfl rfl ?_;intro a hE;refine wsr ?_;refine l_step rfl (f_box (cs:= #[_,_,_,_,_]) hE hI rfl rfl rfl rfl rfl ?_);clear hI hE a w;intro a b1 w hE hI;refine l_step rfl (f_alloc (cs:= #[.int .i64 0, .int .i64 0, .slice none 0 0, .bool false, .slice none 0 0]) hE hI rfl rfl rfl zer_54 rfl ?_);clear hI hE a w;intro a b2 w hE hI;refine go 12 hE hI ?_;clear hE a;intro a hE;refine zs hE (f_build (vs:= [(0,_),(1,_),(2,_),(3,_),(4,_)]) (l:= [_,_,_,_,_]) rfl built_54 rfl) ?_;clear hE a;intro a hE;refine l_step rfl (f_store (l:= [_,_,_,_,_]) (ss':=_::_) 0 hE hI rfl rfl rfl rfl rfl sz_54 (by simp [Value.cells,Value.oneCell']) rfl rfl rfl ?_);clear hI w;intro w hI;refine gc 2 hE ?_;refine retc1 rfl hE rfl agg_54 (hI.seg 0 rfl) rfl ?_;exact ⟨rfl,hI.drop.drop⟩
theorem light_spec {w0 w:World} {D:Sto} {ss:List Seg} (hI:Inv w0 D ss w) (tx n:Int) {vk vv:Value} {key value:List Nat} (had:Bool) (hk:RB D vk key) (hv:RB D vv value) :
  Calls Tryz.prog 18 #[.agg #[.int .i64 tx, .int .i64 n,vk, .bool had,vv]] w (Ret fun r w'=>r= .bool (decide (key.length≤40∧value.length≤60))∧Inv w0 D ss w'):=by
 obtain ⟨Ak,ck,rfl,_⟩:=hk.slice;obtain ⟨Av,cv,rfl,_⟩:=hv.slice;have hhad:had=true↔had=true:=Iff.rfl;refine enter (N:=13) Tryz.func18 rfl rfl rfl ?_;intro a hE;refine wsr ?_;refine l_step rfl (f_box (cs:= #[_,_,_,_,_]) hE hI rfl rfl rfl rfl rfl ?_);clear hI hE a w;intro a b1 w hE hI;refine go 5 hE hI ?_;clear hE a;intro a hE;refine zs hE (p_len rfl rfl Tryz.underlying33) ?_;clear hE a;intro a hE;refine l_step rfl (o_cmp hE rfl rfl rfl rfl rfl rfl ?_ ?_)
 ·intro h1;replace h1:=leq_t h1;clear hE a;intro a hE;refine go 3 hE hI ?_;clear hE a;intro a hE;refine gs hE (p_len rfl rfl Tryz.underlying33) ?_;clear hE a;intro a hE;refine l_go hE rfl (o_cmp hE rfl rfl rfl rfl rfl rfl ?_ ?_)
  ·intro h2;replace h2:=leq_t h2;clear hE a;intro a hE;refine go 4 hE hI ?_;clear hE a;intro a hE;refine ret1 rfl hE rfl ?_;exact ⟨by congr 1;symm;simp only [decide_eq_true_eq];omega,hI.drop⟩
  intro h2;replace h2:=leq_f h2;clear hE a;intro a hE;refine go 4 hE hI ?_;clear hE a;intro a hE;refine ret1 rfl hE rfl ?_;exact ⟨by congr 1;symm;simp only [decide_eq_false_iff_not];omega,hI.drop⟩
 intro h1;replace h1:=leq_f h1;clear hE a;intro a hE;refine go 9 hE hI ?_;clear hE a;intro a hE;refine ret1 rfl hE rfl ?_;exact ⟨by congr 1;symm;simp only [decide_eq_false_iff_not];omega,hI.drop⟩
theorem Same20_spec {w0 w:World} {D:Sto} {ss:List Seg} (hI:Inv w0 D ss w) (tx n:Int) {vk vv:Value} {key value:List Nat} (had:Bool) (hk:RB D vk key) (hv:RB D vv value) (tx' n':Int) {vk' vv':Value} {key' value':List Nat} (had':Bool) (hk':RB D vk' key') (hv':RB D vv' value') (hm1:key.length≤9223372036854775806) (hm2:value.length≤9223372036854775806) :
  Calls Tryz.prog 29 #[.agg #[.int .i64 tx, .int .i64 n,vk, .bool had,vv], .agg #[.int .i64 tx', .int .i64 n',vk', .bool had',vv']] w (Ret fun r w'=>r= .bool (decide (key=key'∧value=value'∧tx=tx'∧n=n'∧had=had'))∧Inv w0 D ss w'):=by
 obtain ⟨Ak,ck,rfl,_⟩:=hk.slice;obtain ⟨Av,cv,rfl,_⟩:=hv.slice;have hhad:had=true↔had=true:=Iff.rfl;obtain ⟨Bk,dk,rfl,_⟩:=hk'.slice;obtain ⟨Bv,dv,rfl,_⟩:=hv'.slice;have hhad':had'=true↔had'=true:=Iff.rfl;refine enter (N:=42) Tryz.func29 rfl rfl rfl ?_;intro a hE;refine wsr ?_;refine l_step rfl (f_box (cs:= #[_,_,_,_,_]) hE hI rfl rfl rfl rfl rfl ?_);clear hI hE a w;intro a b1 w hE hI;refine l_step rfl (f_box (cs:= #[_,_,_,_,_]) hE hI rfl rfl rfl rfl rfl ?_);clear hI hE a w;intro a b2 w hE hI;refine go 7 hE hI ?_;clear hE a;intro a hE;refine l_step rfl (o_call hE rfl rfl rfl rfl ent_82 (SameBytes_spec hI hk hk' (by omega)) ?_);clear hI hE a;rintro r w h a hE;rcases h with ⟨rfl,h1,hI⟩|⟨rfl,h1,hI⟩
 ·refine go 7 hE hI ?_;clear hE a;intro a hE;refine l_step rfl (o_call hE rfl rfl rfl rfl ent_82 (SameBytes_spec hI hv hv' (by omega)) ?_);clear hI hE a;rintro r w h a hE;rcases h with ⟨rfl,h2,hI⟩|⟨rfl,h2,hI⟩
  ·refine go 12 hE hI ?_;clear hE a;intro a hE;refine l_go hE rfl (o_cmp hE rfl rfl rfl rfl rfl rfl ?_ ?_)
   ·intro h3;replace h3:=eql_t h3;clear hE a;intro a hE;refine go 6 hE hI ?_;clear hE a;intro a hE;refine l_go hE rfl (o_cmp hE rfl rfl rfl rfl rfl rfl ?_ ?_)
    ·intro h4;replace h4:=eql_t h4;clear hE a;intro a hE;refine go 6 hE hI ?_;clear hE a;intro a hE;rcases Bool.eq_false_or_eq_true had with rfl|rfl
     ·replace hhad:=iff_t hhad;rcases Bool.eq_false_or_eq_true had' with rfl|rfl
      ·replace hhad':=iff_t hhad';refine gs hE (p_boolEq Tryz.underlying4 rfl rfl rfl) ?_;clear hE a;intro a hE;refine go 4 hE hI ?_;clear hE a;intro a hE;refine ret1 rfl hE rfl ?_;exact ⟨by simp [*],hI.drop.drop⟩
      replace hhad':=iff_f hhad';refine gs hE (p_boolEq Tryz.underlying4 rfl rfl rfl) ?_;clear hE a;intro a hE;refine go 4 hE hI ?_;clear hE a;intro a hE;refine ret1 rfl hE rfl ?_;exact ⟨by simp [*],hI.drop.drop⟩
     replace hhad:=iff_f hhad;rcases Bool.eq_false_or_eq_true had' with rfl|rfl
     ·replace hhad':=iff_t hhad';refine gs hE (p_boolEq Tryz.underlying4 rfl rfl rfl) ?_;clear hE a;intro a hE;refine go 4 hE hI ?_;clear hE a;intro a hE;refine ret1 rfl hE rfl ?_;exact ⟨by simp [*],hI.drop.drop⟩
     replace hhad':=iff_f hhad';refine gs hE (p_boolEq Tryz.underlying4 rfl rfl rfl) ?_;clear hE a;intro a hE;refine go 4 hE hI ?_;clear hE a;intro a hE;refine ret1 rfl hE rfl ?_;exact ⟨by simp [*],hI.drop.drop⟩
    intro h4;replace h4:=eql_f h4;clear hE a;intro a hE;refine go 11 hE hI ?_;clear hE a;intro a hE;refine ret1 rfl hE rfl ?_;exact ⟨by simp [*],hI.drop.drop⟩
   intro h3;replace h3:=eql_f h3;clear hE a;intro a hE;refine go 18 hE hI ?_;clear hE a;intro a hE;refine ret1 rfl hE rfl ?_;exact ⟨by simp [*],hI.drop.drop⟩
  refine go 31 hE hI ?_;clear hE a;intro a hE;refine ret1 rfl hE rfl ?_;exact ⟨by simp [*],hI.drop.drop⟩
 refine go 7 hE hI ?_;clear hE a;intro a hE;refine l_step rfl (o_call hE rfl rfl rfl rfl ent_82 (SameBytes_spec hI hv hv' (by omega)) ?_);clear hI hE a;rintro r w h a hE;rcases h with ⟨rfl,h2,hI⟩|⟨rfl,h2,hI⟩
 ·refine go 31 hE hI ?_;clear hE a;intro a hE;refine ret1 rfl hE rfl ?_;exact ⟨by simp [*],hI.drop.drop⟩
 refine go 31 hE hI ?_;clear hE a;intro a hE;refine ret1 rfl hE rfl ?_;exact ⟨by simp [*],hI.drop.drop⟩
theorem refBytes_spec {w0 w:World} {D:Sto} {ss:List Seg} (hI:Inv w0 D ss w) {vb:Value} {bs:List Nat} (hb:RB D vb bs) (hm:bs.length≤140737488355000) :
  Calls Tryz.prog 114 #[vb] w (Ret fun r w'=> ∃s,OB r bs s∧Inv w0 D (s::ss) w'):=by
 obtain ⟨A1,c2,rfl,_⟩:=hb.slice;refine enter (N:=22) Tryz.func114 rfl rfl rfl ?_;intro a hE;refine go 5 hE hI ?_;clear hE a;intro a hE;refine zs hE (p_len rfl rfl Tryz.underlying33) ?_;clear hE a;intro a hE;refine l_step rfl (f_make hE hI rfl rfl rfl rfl rfl Tryz.underlying33 zsb_5 (by omega) (by omega) (by omega) (by omega) ?_);clear hI hE a w;intro a b3 w hE hI;refine go 7 hE hI ?_;clear hE a;intro a hE;refine c_loop (X:=Nat×Value×Seg) (fun x=> [(0,_),(3,x.2.1),(4, .int .i64 (x.1:Nat))]) (fun x w=>x.1≤bs.length∧Row 5 1 x.2.1 x.1 (bytesV (bs.take x.1)) x.2.2∧Inv w0 D (x.2.2::ss) w) (fun x=>bs.length - x.1) (0,_,_) (hE.pick [0,3,4]) ⟨Nat.zero_le _,Row.cast (Row.made (l:=0) (c:=bs.length) rfl (Nat.zero_le _) (by omega)) rfl rfl,hI⟩ ?_;clear hE hI a w;rintro ⟨i,v,s⟩ a w hE ⟨hi,hR,hI⟩;(try dsimp only at hE);(try dsimp only at hi);(try dsimp only at hR);(try dsimp only at hI);obtain ⟨A1,c1,rfl,_⟩:=hR.slice;refine go 4 hE hI ?_;clear hE a;intro a hE;refine zs hE (p_len rfl rfl Tryz.underlying33) ?_;clear hE a;intro a hE;refine l_step rfl (o_cmp hE rfl rfl rfl rfl rfl rfl ?_ ?_)
 ·intro hlt;replace hlt:=lss_t hlt;clear hE a;intro a hE;refine go 10 hE hI ?_;clear hE a;intro a hE;obtain ⟨b_4,o_4,cs_4,T_4,fr_4,rfl,hb_4,hc_4⟩:=hb.at_ (List.ne_nil_of_length_pos (by omega));refine zs hE (p_indexAddr rfl rfl Tryz.underlying33 sz_5 (by omega) (by omega) rfl) ?_;clear hE a;intro a hE;refine zl hE (r_load rfl scal_5 (hI.data _ _ (hb_4)) (RB.cell hc_4 (by omega) (by omega))) ?_;clear hE a;intro a hE;refine l_step rfl (f_lit (vs:= [(0,_)]) (l:= [_]) hE hI rfl rfl rfl rfl Tryz.underlying33 zs_5 rfl rfl rfl ?_);clear hI hE a w;intro a b5 w hE hI;refine l_step rfl (o_append 1 hE hI rfl rfl rfl rfl rfl Tryz.underlying33 zsb_5 rfl rfl rfl hR (by rfl) (lit_news (hI.seg 0 rfl)) (by simp [Value.oneCell']) (by omega) (by omega) ?_);clear hI hE a w;intro v6 s7 w hR8 hI a hE;obtain ⟨A9,c10,rfl,_⟩:=hR8.slice;replace hI:=hI.erase 0;(try simp only [nrm,Value.cells] at hI);refine za hE ?_;clear hE a;intro a hE;refine wpList_nil ?_;refine go 4 hE hI ?_;clear hE a;intro a hE;refine zs hE (p_arith (z:=((i+1:Nat):Int)) rfl rfl (add_z (by omega) (by omega) (by omega))) ?_;clear hE a;intro a hE;refine go 2 hE hI ?_;clear hE a;intro a hE;exact ⟨(i+1,_,_),hE.pick [0,3,4],⟨by show i+1≤bs.length;omega,Row.cast hR8 (bytes_step (by omega)) rfl,hI⟩,by show bs.length - (i+1)<bs.length - i;omega⟩
 intro hlt;replace hlt:=lss_f hlt;clear hE a;intro a hE;refine go 12 hE hI ?_;clear hE a;intro a hE;refine ret1 rfl hE rfl ?_;obtain rfl:i=bs.length:=by omega
 exact ⟨_,Row.cast hR (by rw [List.take_length]) rfl,hI⟩
theorem said_spec {w0 w:World} {D:Sto} {ss:List Seg} (hI:Inv w0 D ss w) {vb:Value} {bs:List Nat} (hb:RB D vb bs) :
  Calls Tryz.prog 128 #[vb] w (Ret fun r w'=>((∃t n,saidL bs=some (t,n)∧r= .tuple #[.int .i64 t, .int .i64 n, .bool true])∨(saidL bs=none∧r= .tuple #[.int .i64 0, .int .i64 0, .bool false]))∧Inv w0 D ss w'):=by
 obtain ⟨A1,c2,rfl,_⟩:=hb.slice;refine enter (N:=48) Tryz.func128 rfl rfl rfl ?_;intro a hE;refine go 8 hE hI ?_;clear hE a;intro a hE;refine zs hE (p_len rfl rfl Tryz.underlying33) ?_;clear hE a;intro a hE;refine l_step rfl (o_cmp hE rfl rfl rfl rfl rfl rfl ?_ ?_)
 ·intro hl;replace hl:=neq_t hl;clear hE a;intro a hE;refine go 15 hE hI ?_;clear hE a;intro a hE;refine ret3 rfl hE rfl rfl rfl ?_;refine ⟨.inr ⟨?_,rfl⟩,hI⟩;unfold saidL
  first
   |rw [if_neg (by rintro ⟨h,_⟩;omega)]
   |rw [if_neg (by rintro ⟨_,h⟩;exact zero_ne h0 h)]
   |(split<;>(first|rw [if_neg (by omega)]|rfl))
 intro hl;replace hl:=neq_f hl;clear hE a;intro a hE;refine go 2 hE hI ?_;clear hE a;intro a hE;obtain ⟨b_3,o_3,cs_3,T_3,fr_3,rfl,hb_3,hc_3⟩:=hb.at_ (List.ne_nil_of_length_pos (by omega));refine gs hE (p_indexAddr rfl rfl Tryz.underlying33 sz_5 (by omega) (by omega) rfl) ?_;clear hE a;intro a hE;refine gl hE (r_load rfl scal_5 (hI.data _ _ (hb_3)) (RB.cell hc_3 (by omega) (by omega))) ?_;clear hE a;intro a hE;refine l_go hE rfl (o_cmp hE rfl rfl rfl rfl rfl rfl ?_ ?_)
 ·intro h0;replace h0:=neq_t h0;clear hE a;intro a hE;refine go 10 hE hI ?_;clear hE a;intro a hE;refine ret3 rfl hE rfl rfl rfl ?_;refine ⟨.inr ⟨?_,rfl⟩,hI⟩;unfold saidL
  first
   |rw [if_neg (by rintro ⟨h,_⟩;omega)]
   |rw [if_neg (by rintro ⟨_,h⟩;exact zero_ne h0 h)]
   |(split<;>(first|rw [if_neg (by omega)]|rfl))
 intro h0;replace h0:=neq_f h0;clear hE a;intro a hE;refine go 11 hE hI ?_;clear hE a;intro a hE;refine l_step rfl (o_sliceRB (l:=1) (h:=9) hE rfl rfl rfl rfl Tryz.underlying33 sz_5 (rfl) (rfl) (hb) (by omega) (by omega) ?_);clear hE a;intro A4 c5 hs_ a hE;have e8:((bs.drop 1).take (9 - 1)).length=8:=by simp;omega
 refine zs hE (p_len rfl rfl Tryz.underlying33) ?_;clear hE a;intro a hE;refine go 3 hE hI ?_;clear hE a;intro a hE;refine c_loop (X:=Nat) (fun x=> [(0,_),(5, .int .u64 (valL (((bs.drop 1).take 8).take x):Nat)),(19,_),(20, .int .i64 (((bs.drop 1).take (9 - 1)).length:Nat)),(21, .int .i64 (x:Nat))]) (fun x w=>x≤8∧Inv w0 D ss w) (fun x=>8 - x) 0 (hE.pick [0,5,19,20,21]) ⟨by omega,hI⟩ ?_;clear hE hI a w;rintro i a w hE ⟨hi,hI⟩;(try dsimp only at hE);(try dsimp only at hi);(try dsimp only at hI);refine wsr ?_;refine l_step rfl (o_cmp hE rfl rfl rfl rfl rfl rfl ?_ ?_)
 ·intro hlt;replace hlt:=lss_t hlt;clear hE a;intro a hE;refine gc 8 hE ?_;obtain ⟨b_6,o_6,cs_6,T_6,fr_6,rfl,hb_6,hc_6⟩:=hs_.at_ (List.ne_nil_of_length_pos (by omega));refine zs hE (p_indexAddr rfl rfl Tryz.underlying33 sz_5 (by omega) (by omega) rfl) ?_;clear hE a;intro a hE;refine zl hE (r_load rfl scal_5 (hI.data _ _ (hb_6)) (RB.cell hc_6 (by omega) (by omega))) ?_;clear hE a;intro a hE;refine go 2 hE hI ?_;clear hE a;intro a hE;have hv8:=val_take8 hb.lt (k:=i) (by omega);have hcb:((bs.drop 1).take (9 - 1)).getD ((i:Nat):Int).toNat 0<256:=getD_lt hs_.lt _;have hst:=val_take_step (l:=(bs.drop 1).take 8) (i:=i) (by rw [e8];omega);refine go 2 hE hI ?_;clear hE a;intro a hE;refine zs hE (p_shl (z:=((valL (((bs.drop 1).take 8).take i)*256:Nat):Int)) rfl rfl (by omega) (shl8 hv8)) ?_;clear hE a;intro a hE;refine zm hE ?_;clear hE a;intro a hE;refine zs hE (p_int (z:=_) Tryz.underlying5 Tryz.underlying232 rfl (u64_small hcb)) ?_;clear hE a;intro a hE;refine zs hE (p_arith (z:=((valL (((bs.drop 1).take 8).take (i+1)):Nat):Int)) rfl rfl (or_byte hv8 hcb hst)) ?_;clear hE a;intro a hE;refine za hE ?_;clear hE a;intro a hE;refine wpList_nil ?_;refine gc 3 hE ?_;refine zs hE (p_arith (z:=((i+1:Nat):Int)) rfl rfl (add_z (by omega) (by omega) (by omega))) ?_;clear hE a;intro a hE;refine go 2 hE hI ?_;clear hE a;intro a hE;exact ⟨i+1,hE.pick [0,5,19,20,21],⟨by show i+1≤8;omega,hI⟩,by show 8 - (i+1)<8 - i;omega⟩
 intro hlt;replace hlt:=lss_f hlt;clear hE a;intro a hE;refine gc 8 hE ?_;refine wp_seq ?_;obtain rfl:i=8:=by omega
 have e9:((bs.drop 1).take 8).take 8=(bs.drop 1).take 8:=List.take_of_length_le (by rw [e8];omega);rw [e9] at hE;have h9:bs.getD 9 0<256:=getD_lt hb.lt _;have h9i:bs.getD (Int.toNat 9) 0<256:=h9;refine go 2 hE hI ?_;clear hE a;intro a hE;refine zs hE (p_indexAddr rfl rfl Tryz.underlying33 sz_5 (by omega) (by omega) rfl) ?_;clear hE a;intro a hE;refine zl hE (r_load rfl scal_5 (hI.data _ _ (hb_3)) (RB.cell hc_3 (by omega) (by omega))) ?_;clear hE a;intro a hE;refine zs hE (p_int (z:=((bs.getD 9 0:Nat):Int)) Tryz.underlying5 Tryz.underlying3 rfl (i64_nat (by omega))) ?_;clear hE a;intro a hE;refine go 5 hE hI ?_;clear hE a;intro a hE;refine l_step rfl (o_cmp hE rfl rfl rfl rfl rfl rfl ?_ ?_)
 ·intro h1;replace h1:=lss_t h1;clear hE a;intro a hE;refine go 17 hE hI ?_;clear hE a;intro a hE;refine ret3 rfl hE rfl rfl rfl ?_;refine ⟨.inr ⟨?_,rfl⟩,hI⟩;unfold saidL
  first
   |rw [if_neg (by rintro ⟨h,_⟩;omega)]
   |rw [if_neg (by rintro ⟨_,h⟩;exact zero_ne h0 h)]
   |(split<;>(first|rw [if_neg (by omega)]|rfl))
 intro h1;replace h1:=lss_f h1;clear hE a;intro a hE;refine go 2 hE hI ?_;clear hE a;intro a hE;refine l_go hE rfl (o_cmp hE rfl rfl rfl rfl rfl rfl ?_ ?_)
 ·intro h2;replace h2:=gtr_t h2;clear hE a;intro a hE;refine go 14 hE hI ?_;clear hE a;intro a hE;refine ret3 rfl hE rfl rfl rfl ?_;refine ⟨.inr ⟨?_,rfl⟩,hI⟩;unfold saidL
  first
   |rw [if_neg (by rintro ⟨h,_⟩;omega)]
   |rw [if_neg (by rintro ⟨_,h⟩;exact zero_ne h0 h)]
   |(split<;>(first|rw [if_neg (by omega)]|rfl))
 intro h2;replace h2:=gtr_f h2;clear hE a;intro a hE;refine go 3 hE hI ?_;clear hE a;intro a hE;refine l_go hE rfl (o_cmp hE rfl rfl rfl rfl rfl rfl ?_ ?_)
 ·intro h3;replace h3:=geq_t h3;clear hE a;intro a hE;refine go 10 hE hI ?_;clear hE a;intro a hE;refine ret3 rfl hE rfl rfl rfl ?_;refine ⟨.inr ⟨?_,rfl⟩,hI⟩;unfold saidL
  first
   |rw [if_neg (by rintro ⟨h,_⟩;omega)]
   |rw [if_neg (by rintro ⟨_,h⟩;exact zero_ne h0 h)]
   |(split<;>(first|rw [if_neg (by omega)]|rfl))
 intro h3;replace h3:=geq_f h3;clear hE a;intro a hE;refine go 7 hE hI ?_;clear hE a;intro a hE;refine zs hE (p_int (z:=((valL ((bs.drop 1).take 8):Nat):Int)) Tryz.underlying232 Tryz.underlying2 rfl (i64_nat (by omega))) ?_;clear hE a;intro a hE;refine go 6 hE hI ?_;clear hE a;intro a hE;refine ret3 rfl hE rfl rfl rfl ?_;exact ⟨.inl ⟨_,_,by unfold saidL;rw [if_pos ⟨by omega,zero_at h0⟩,if_pos ⟨by omega,by omega,by omega⟩],rfl⟩,hI⟩
end Go.Proofs.YtkknmpkcfpdllaaGreatDoor.B
