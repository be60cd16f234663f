/- What functions of the program compute, each function once: steps over the model, and the plain law of it. -/
import Derived.Test.YtkknmpkcfpdllaaGreatDoorSStr
import Derived.Test.YtkknmpkcfpdllaaGreatDoorTFacts
import Derived.Test.YtkknmpkcfpdllaaGreatDoorTTx10
namespace Go.Proofs.YtkknmpkcfpdllaaGreatDoor.B
open Go Go.Proofs
set_option linter.unusedVariables false
set_option linter.unusedSimpArgs false
theorem o_setRow {α:Type} {size:Nat} {R:Sto→List Value→α→Prop} {P:Program} {o:Oper} {N:Nat} {env:Env} {a:Act} {w0 w:World} {D:Sto} {ss:List Seg} {K:Act→World→Prop} {Q:Exit→Act→World→Prop} {t:TypeId} {x y:Operand} {g ix T m:Nat} {vs:List Value} {e':α} {xs:List α} {cur:Array Value} (i:Nat) (hE:EnvOk N env a) (hI:Inv w0 D ss w) (hd:o.dst=none) (ho:o.op= .store t x y)
    (hx:ev env x=some (.pointer (some ⟨g,m,none⟩))) (hm:m=ix*size) (hy:ev env y=some (.agg vs.toArray)) (hi:ss[i]? =some [(g, .cells cur T (0,0))]) (hsz:(P.info? t).map (·.size)=some size)
    (hat:At size R D cur 0 xs) (hix:ix<xs.length) (hcs:xs.length*size≤cur.size) (hl:vs.length=size) (hone: ∀u∈vs,u.oneCell'=true) (hr:R D vs e')
    (kk: ∀cur' w',cur'.size=cur.size→At size R D cur' 0 (xs.set ix e')→Inv w0 D (ss.set i [(g, .cells cur' T (0,0))]) w'→K a w'):o.wp P a w K Q:=by
  subst hm;have hb:=mul_le_of_lt (size:=size) hix;have hz:(Value.agg vs.toArray).cells.size=size:=by rw [←hl];exact List.size_toArray
  refine o_store (cs':=splice cur (ix*size) vs) i hE hI hd ho hx hy hi (hsz.trans (by rw [hz])) (Array.all_eq_true_iff_forall_mem.2 fun u hu=>hone u (by simpa [Value.cells] using hu)) (Nat.ble_eq_true_of_le (by rw [hz];omega)) rfl rfl ?_;intro w' hI';refine kk _ w' (size_splice _ _ _) ?_ hI';have h9:xs.set ix e'=xs.modify ix (fun _=>e'):=by
    apply List.ext_getElem?;intro j;rw [List.getElem?_set,List.getElem?_modify];by_cases hj:ix=j
    ·subst hj;rw [if_pos rfl,if_pos hix,List.getElem?_eq_getElem hix];simp
    ·rw [if_neg hj];simp [hj]
  rw [h9];refine At.modify hat (fun p hp=> ?_) (fun x hx=>⟨vs,hl,hr,fun j u hj=> ?_⟩)
  ·rw [getElem?_splice _ _ _ _ (by omega),if_neg (by omega)]
  ·have hj':=(List.getElem?_eq_some_iff.1 hj).1;rw [getElem?_splice _ _ _ _ (by omega),if_pos (by omega)];have:ix*size+j - ix*size=j:=by omega
   rw [this];exact hj
def SortTo (zs:List Ent) (i:Nat):Prop:= ∀p q a b,p<q→q<i→zs[p]? =some a→zs[q]? =some b→a.n≤b.n
def UpTo (zs:List Ent) (i j:Nat):Prop:= ∀p q a b,p<q→q≤i→q≠j→zs[p]? =some a→zs[q]? =some b→a.n≤b.n
theorem SortTo.one (zs:List Ent):SortTo zs 1:=fun p q a b h1 h2=>by omega
theorem SortTo.start {zs:List Ent} {i:Nat} (h:SortTo zs i):UpTo zs i i:=fun p q a b h1 h2 h3 ha hb=>h p q a b h1 (by omega) ha hb
theorem swap_at {α:Type} {zs:List α} {j:Nat} {a b:α} (hj:1≤j) (ha:zs[j - 1]? =some a) (hb:zs[j]? =some b) (q:Nat):((zs.set j a).set (j - 1) b)[q]? =if q=j - 1 then some b else if q=j then some a else zs[q]? :=by
  have h1:=(List.getElem?_eq_some_iff.1 ha).1;have h2:=(List.getElem?_eq_some_iff.1 hb).1;by_cases q1:q=j - 1
  ·rw [if_pos q1,List.getElem?_set,if_pos q1.symm,if_pos (by simp;omega)]
  ·rw [if_neg q1,List.getElem?_set,if_neg (fun e=>q1 e.symm),List.getElem?_set];by_cases q2:q=j
   ·rw [if_pos q2,if_pos q2.symm,if_pos h2]
   ·rw [if_neg q2,if_neg (fun e=>q2 e.symm)]
theorem UpTo.swap {zs:List Ent} {i j:Nat} {a b:Ent} (h:UpTo zs i j) (hj:1≤j) (hji:j≤i) (ha:zs[j - 1]? =some a) (hb:zs[j]? =some b) (hlt:b.n<a.n):UpTo ((zs.set j a).set (j - 1) b) i (j - 1):=by
  intro p q x y hpq hq hqj hx hy;rw [swap_at hj ha hb] at hx hy;rw [if_neg hqj] at hy;by_cases q1:q=j
  ·rw [if_pos q1] at hy;injection hy with hy;subst hy
   by_cases p1:p=j - 1
   ·rw [if_pos p1] at hx;injection hx with hx;subst hx;omega
   ·rw [if_neg p1,if_neg (by omega)] at hx;exact h p (j - 1) x a (by omega) (by omega) (by omega) hx ha
  ·rw [if_neg q1] at hy;by_cases p1:p=j - 1
   ·rw [if_pos p1] at hx;injection hx with hx;subst hx
    exact h j q b y (by omega) hq (by omega) hb hy
   ·rw [if_neg p1] at hx;by_cases p2:p=j
    ·rw [if_pos p2] at hx;injection hx with hx;subst hx
     exact h (j - 1) q a y (by omega) hq (by omega) ha hy
    ·rw [if_neg p2] at hx;exact h p q x y hpq hq (by omega) hx hy
theorem UpTo.done {zs:List Ent} {i j:Nat} (h:UpTo zs i j) (hj:j=0∨ ∃a b,1≤j∧zs[j - 1]? =some a∧zs[j]? =some b∧a.n≤b.n):SortTo zs (i+1):=by
  intro p q x y hpq hq hx hy;by_cases q1:q=j
  ·subst q1;rcases hj with e|⟨a,b,h1,ha,hb,hab⟩
   ·omega
   ·obtain rfl:y=b:=by rw [hb] at hy;injection hy with hy;exact hy.symm
    by_cases p1:p=q - 1
    ·subst p1;obtain rfl:x=a:=by rw [ha] at hx;injection hx with hx;exact hx.symm
     exact hab
    ·have:=h p (q - 1) x a (by omega) (by omega) (by omega) hx ha;omega
  ·exact h p q x y hpq (by omega) q1 hx hy
theorem swap_perm {α:Type} {zs:List α} {j:Nat} {a b:α} (ha:zs[j - 1]? =some a) (hb:zs[j]? =some b):((zs.set j a).set (j - 1) b).Perm zs:=by obtain ⟨h1,e1⟩:=List.getElem?_eq_some_iff.1 ha;obtain ⟨h2,e2⟩:=List.getElem?_eq_some_iff.1 hb;subst e1;subst e2;exact List.set_set_perm h2 h1
theorem SortTo.pair {zs:List Ent} (h:SortTo zs zs.length):zs.Pairwise fun a b=>a.n≤b.n:=by rw [List.pairwise_iff_getElem];intro i j hi hj hij;exact h i j _ _ hij hj (List.getElem?_eq_getElem hi) (List.getElem?_eq_getElem hj)
set_option maxRecDepth 20000
set_option maxHeartbeats 8000000
structure KRounds (w0:World) (D0:Sto) (l:Nat) (bw:Nat) (es:Array MapEntry) (clk:Nat) (m:List (Int×Value)) (J:List (Int×Value)→Sto→List Seg→Prop):Prop where
 mono: ∀vis D D' ms,Le D D'→J vis D ms→J vis D' ms
 round: ∀vis p D ms rest w,p∈m→p ∉ vis→vis.length<m.length→Le D0 D→J vis D ms→Inv w0 D ([(bw, .map es clk)]::(ms++rest)) w→
  YieldOk l #[.int .i64 p.1] w fun en w'=> ∃D' ms',en= .returned (.bool true)∧Le D D'∧J (p::vis) D' ms'∧Inv w0 D' ([(bw, .map es clk)]::(ms'++rest)) w'
structure AllOf (m vis:List (Int×Value)):Prop where
 all: ∀p∈m,p∈vis
 sub: ∀p∈vis,p∈m
 nd:(vis.map (·.1)).Nodup
def KeySeqOk (D:Sto) (v:Value) (bw:Nat) (es:Array MapEntry) (clk:Nat) (m:List (Int×Value)):Prop:= ∃f cap,v= .func (.func f) #[] cap∧enters Tryz.prog f=true∧
 ∀(w0 w:World) (D':Sto) (ms ss:List Seg) (l:Nat) (J:List (Int×Value)→Sto→List Seg→Prop),Le D D'→Inv w0 D' ([(bw, .map es clk)]::(ms++ss)) w→KRounds w0 D' l bw es clk m J→J [] D' ms→
  Calls Tryz.prog f (#[.func (.yield l) #[] #[]]++cap) w (Ret fun _ w'=> ∃vis D2 ms',Le D' D2∧AllOf m vis∧J vis D2 ms'∧Inv w0 D2 ([(bw, .map es clk)]::(ms'++ss)) w')
theorem Vis.less {es:Array MapEntry} {seen:Array Nat} {m vis:List (Int×Value)} {p:Int×Value} (h:Vis es seen m (p::vis)):vis.length<m.length:=by have:=h.len;simp only [List.length_cons] at this;omega
theorem p_indexS {env:Env} {t:TypeId} {x y:Operand} {s:ByteArray} {k:IntKind} {i z:Int} (hx:ev env x=some (.string s)) (hy:ev env y=some (.int k i)) (ht:Tryz.prog.underlying t=some .string) (h0:0≤i) (hz:(s[i.toNat]?).map (fun b=>((b.toNat:Nat):Int))=some z):PureOp Tryz.prog env (.index t x y) (.int .u8 z):=fun _ a w o hE ho=>by
 obtain ⟨b,h1,h2⟩:=Option.map_eq_some_iff.1 hz;subst h2;simp [execOp,ho,hE.eval hx,hE.eval hy,Instr.index,asIntOf,run_underlying ht,h0,h1]
theorem NaR.le {D D':Sto} {T:Nat} {v:Value} {xs:List Nat} {s:Seg} (h:OR 1 NaR D T v xs s) (hD:Le D D'):OR 1 NaR D' T v xs s:=h.mono NaR.keeps hD
def keysN (vis:List (Int×Value)):List Nat:=vis.reverse.map fun p=>p.1.toNat
theorem keysN_cons (p:Int×Value) (vis:List (Int×Value)):keysN (p::vis)=keysN vis++ [p.1.toNat]:=by simp [keysN]
theorem x_round1 {l:Nat} {r:Loop} {v1:Value} {t1:Tmp} {tm:Array Value} {R:Ending→World→Prop} {N:Nat} {env:Env} {w:World} (hE:EnvOk N env ⟨tm, []⟩) (ht:r.tmps=tm) (hp:r.params= #[t1]) (h1:Nat.blt t1 N=true)
  (h: ∀a',EnvOk N ((t1,v1)::env) a'→wpX (some l) Tryz.prog [] r.assign (beginX Tryz.prog l r.body R) a' w):RoundAt Tryz.prog l r #[v1] w R:=
 x_round (ps:= [(t1,v1)]) hE ht (by rw [hp];simp) (by simp [h1]) h
def len8f (n:Nat):Int:=if n=0 then 0 else if n=1 then 1 else if n<4 then 2 else if n<8 then 3 else 4
theorem len8_of {s:ByteArray} (h: ∀k:Fin 13,(s[k.1]?).map (fun b=>((b.toNat:Nat):Int))=some (len8f k.1)) {n:Nat} (hn:n≤12):(s[((n:Nat):Int).toNat]?).map (fun b=>((b.toNat:Nat):Int))=some (len8f n):=by simpa using h ⟨n,by omega⟩
theorem len8_in (n:Nat):0≤len8f n∧len8f n≤4:=by
 unfold len8f;repeat' split
 all_goals omega
theorem u8_smallW {n:Nat} (h:n≤12):IntKind.u8.wrap ((n:Nat):Int)=((n:Nat):Int):=by rw [IntKind.wrap_u8];omega
theorem u64_smallW {n:Nat} (h:n≤12):IntKind.u64.wrap ((n:Nat):Int)=((n:Nat):Int):=by simp [IntKind.wrap,IntKind.bits,IntKind.signed];omega
theorem Len64_spec {w0 w:World} {D:Sto} {ss:List Seg} (hI:Inv w0 D ss w) (n:Nat) (hn:n≤12) :
  Calls Tryz.prog 207 #[.int .u64 (n:Nat)] w (Ret fun r w'=> ∃z,r= .int .i64 z∧Inv w0 D ss w'):=by
 refine enter (N:=25) Tryz.func207 rfl rfl rfl ?_;intro a hE;refine go 6 hE hI ?_;clear hE a;intro a hE;refine zs hE (p_cmp rfl rfl (geq_n (by omega))) ?_;clear hE a;intro a hE;refine go 7 hE hI ?_;clear hE a;intro a hE;refine zs hE (p_cmp rfl rfl (geq_n (by omega))) ?_;clear hE a;intro a hE;refine go 7 hE hI ?_;clear hE a;intro a hE;refine zs hE (p_cmp rfl rfl (geq_n (by omega))) ?_;clear hE a;intro a hE;refine gc 4 hE ?_;refine wp_seq ?_;obtain ⟨hz0,hz1⟩:=len8_in n;refine go 3 hE hI ?_;clear hE a;intro a hE;refine zs hE (p_int (z:=((n:Nat):Int)) Tryz.underlying232 Tryz.underlying5 rfl (u8_smallW hn)) ?_;clear hE a;intro a hE;refine zs hE (p_indexS rfl rfl Tryz.underlying9 (by omega) (len8_of (by decide+kernel) hn)) ?_;clear hE a;intro a hE;refine zs hE (p_int (z:=len8f n) Tryz.underlying5 Tryz.underlying3 rfl (IntWalk.i64_in _ ⟨by omega,by omega⟩)) ?_;clear hE a;intro a hE;refine zs hE (p_arith (z:=len8f n) rfl rfl (add_z (by omega) (by omega) (by omega))) ?_;clear hE a;intro a hE;refine go 3 hE hI ?_;clear hE a;intro a hE;refine ret1 rfl hE rfl ?_;exact ⟨_,rfl,hI⟩
theorem Len_spec {w0 w:World} {D:Sto} {ss:List Seg} (hI:Inv w0 D ss w) (n:Nat) (hn:n≤12) :
  Calls Tryz.prog 182 #[.int .u64 (n:Nat)] w (Ret fun r w'=> ∃z,r= .int .i64 z∧Inv w0 D ss w'):=by
 refine enter (N:=8) Tryz.func182 rfl rfl rfl ?_;intro a hE;refine go 9 hE hI ?_;clear hE a;intro a hE;refine l_step rfl (o_call hE rfl rfl rfl rfl ent_207 (Len64_spec hI n hn) ?_);clear hI hE a;rintro r w ⟨z9,rfl,hI⟩ a hE;refine go 3 hE hI ?_;clear hE a;intro a hE;refine ret1 rfl hE rfl ?_;exact ⟨_,rfl,hI⟩
theorem AllOf.len {m vis:List (Int×Value)} (h:AllOf m vis):vis.length≤m.length:=
 Vis.len (es:= #[]) (seen:= #[]) ⟨h.sub,h.nd,fun e he=>by simp at he⟩
set_option maxHeartbeats 400000
theorem cmpN_spec {w0 w:World} {D:Sto} {ss:List Seg} (hI:Inv w0 D ss w) {vs1 vs2:List Value} {x y:Ent} (h1:UeR D vs1 x) (h2:UeR D vs2 y) (hx:0≤x.n∧x.n<12) (hy:0≤y.n∧y.n<12) :
  Calls Tryz.prog 188 #[.agg vs1.toArray, .agg vs2.toArray] w (Ret fun r w'=>r= .int .i64 (x.n - y.n)∧Inv w0 D ss w'):=by
 obtain ⟨k1,u1,rfl,hk1,hu1⟩:=h1;obtain ⟨k2,u2,rfl,hk2,hu2⟩:=h2;obtain ⟨A1,c2,rfl,_⟩:=hk1.slice;obtain ⟨A3,c4,rfl,_⟩:=hu1.slice;obtain ⟨A5,c6,rfl,_⟩:=hk2.slice;obtain ⟨A7,c8,rfl,_⟩:=hu2.slice;refine enter (N:=10) Tryz.func188 rfl rfl rfl ?_;intro a hE;refine wsr ?_;refine l_step rfl (f_box (cs:= #[_,_,_,_,_]) hE hI rfl rfl rfl rfl rfl ?_);clear hI hE a w;intro a b9 w hE hI;refine l_step rfl (f_box (cs:= #[_,_,_,_,_]) hE hI rfl rfl rfl rfl rfl ?_);clear hI hE a w;intro a b10 w hE hI;refine go 7 hE hI ?_;clear hE a;intro a hE;refine zs hE (p_arith (z:=x.n - y.n) rfl rfl (sub_z rfl (by omega) (by omega))) ?_;clear hE a;intro a hE;refine go 3 hE hI ?_;clear hE a;intro a hE;refine ret1 rfl hE rfl ?_;exact ⟨rfl,hI.drop.drop⟩
theorem cmpN_call {w0 w:World} {D:Sto} {ss:List Seg} (hI:Inv w0 D ss w) {a1 a2 a3 a4 a5 b1 b2 b3 b4 b5:Value} {x y:Ent} (h1:UeR D [a1,a2,a3,a4,a5] x) (h2:UeR D [b1,b2,b3,b4,b5] y) (hx:0≤x.n∧x.n<12) (hy:0≤y.n∧y.n<12) :
  Calls Tryz.prog 188 (#[]++ #[.agg #[a1,a2,a3,a4,a5], .agg #[b1,b2,b3,b4,b5]]++ #[]) w (Ret fun r w'=>r= .int .i64 (x.n - y.n)∧Inv w0 D ss w'):=by
 have:=cmpN_spec hI h1 h2 hx hy;simpa using this
theorem insSortN_spec {w0 w:World} {D:Sto} {ss:List Seg} {g c T:Nat} {cur:Array Value} {xs:List Ent} (hI:Inv w0 D ([(g, .cells cur T (0,0))]::ss) w) (hat:At 5 UeR D cur 0 xs) (hcs:xs.length*5≤cur.size) (hx12:xs.length≤12) (hsm: ∀e∈xs,0≤e.n∧e.n<12) :
  Calls Tryz.prog 247 #[.slice (some ⟨g,0,none⟩) xs.length c, .int .i64 0, .int .i64 (xs.length:Nat), .func (.func 188) #[] #[]] w (Ret fun r w'=> ∃cur' zs,cur'.size=cur.size∧zs.Perm xs∧SortTo zs zs.length∧At 5 UeR D cur' 0 zs∧Inv w0 D ([(g, .cells cur' T (0,0))]::ss) w'):=by
 refine enter (N:=53) Tryz.func247 rfl rfl rfl ?_;intro a hE;refine go 2 hE hI ?_;clear hE a;intro a hE;refine zs hE (p_arith (z:=1) rfl rfl (rfl)) ?_;clear hE a;intro a hE;refine go 3 hE hI ?_;clear hE a;intro a hE;refine c_loop (X:=Nat×Array Value×List Ent) (fun y=> [(0,_),(1,_),(2,_),(3,_),(8, .int .i64 (y.1:Nat))]) (fun y w=>y.1≤xs.length+1∧1≤y.1∧y.2.1.size=cur.size∧y.2.2.Perm xs∧SortTo y.2.2 y.1∧At 5 UeR D y.2.1 0 y.2.2∧Inv w0 D ([(g, .cells y.2.1 T (0,0))]::ss) w) (fun y=>xs.length+1 - y.1) (1,cur,xs) (hE.pick [0,1,2,3,8]) ⟨by show 1≤xs.length+1;omega,Nat.le_refl 1,rfl,List.Perm.refl _,SortTo.one xs,hat,hI⟩ ?_;clear hE hI a w;rintro ⟨i,cur1,zs1⟩ a w hE ⟨hi,hi1,hsz1,hpm1,hso1,hat1,hI⟩;(try dsimp only at hE);(try dsimp only at hi);(try dsimp only at hi1);(try dsimp only at hsz1);(try dsimp only at hpm1);(try dsimp only at hso1);(try dsimp only at hat1);(try dsimp only at hI);have hln1:=hpm1.length_eq;have hcs1:zs1.length*5≤cur1.size:=by omega
 refine go 4 hE hI ?_;clear hE a;intro a hE;refine l_step rfl (o_cmp hE rfl rfl rfl rfl rfl rfl ?_ ?_)
 ·intro hlt;replace hlt:=lss_t hlt;clear hE a;intro a hE;refine go 11 hE hI ?_;clear hE a;intro a hE;refine c_loop (X:=Nat×Array Value×List Ent) (fun y=> [(0,_),(1,_),(2,_),(3,_),(8,_),(9, .int .i64 (y.1:Nat))]) (fun y w=>y.1≤i∧y.2.1.size=cur.size∧y.2.2.Perm xs∧UpTo y.2.2 i y.1∧At 5 UeR D y.2.1 0 y.2.2∧Inv w0 D ([(g, .cells y.2.1 T (0,0))]::ss) w) (fun y=>y.1) (i,cur1,zs1) (hE.pick [0,1,2,3,8,9]) ⟨Nat.le_refl _,hsz1,hpm1,hso1.start,hat1,hI⟩ ?_;clear hE hI a w;rintro ⟨j,cur2,zs2⟩ a w hE ⟨hji,hsz2,hpm2,hup2,hat2,hI⟩;(try dsimp only at hE);(try dsimp only at hji);(try dsimp only at hsz2);(try dsimp only at hpm2);(try dsimp only at hup2);(try dsimp only at hat2);(try dsimp only at hI);have hln2:=hpm2.length_eq;have hcs2:zs2.length*5≤cur2.size:=by omega
  have hmem: ∀(q:Nat) {e:Ent},zs2[q]? =some e→e∈xs:=fun q e h=>hpm2.mem_iff.1 (List.mem_of_getElem? h);refine wp_seq ?_;refine wp_seq ?_;refine d_start [] [] (by kernel_rfl) hI rfl rfl ?_;clear hI w;intro w hI;refine dp 0 hE rfl (p_move rfl) (fun _=>hI) (listed':= #[true,false,false,false,false,false,false,false,false,false,false,false,false,false,false,false,false]) ?_;clear hE a;intro a hE;refine dp 1 hE rfl (p_move rfl) (fun _=>hI) ?_;clear hE a;intro a hE;refine d_cmp 2 hE rfl (by kernel_rfl) (by kernel_rfl) (by kernel_rfl) rfl (fun _ _ _ _ h=>h) rfl rfl rfl rfl rfl rfl rfl (fun _=>hI) (listed':= #[true,true,true,false,false,false,false,false,false,false,false,false,false,false,false,false,false]) rfl ?_ ?_
  ·intro hj0;replace hj0:=gtr_t hj0;clear hE a;intro a hE;refine dp 3 hE rfl (p_move rfl) (fun _=>hI) ?_;clear hE a;intro a hE;refine dp 4 hE rfl (p_move rfl) (fun _=>hI) ?_;clear hE a;intro a hE;refine dp 5 hE rfl (p_move rfl) (fun _=>hI) ?_;clear hE a;intro a hE;refine dp 6 hE rfl (p_move rfl) (fun _=>hI) ?_;clear hE a;intro a hE;obtain ⟨x_1,hx_1⟩: ∃z9,(zs2)[j]? =some z9:=⟨_,List.getElem?_eq_getElem (by omega)⟩;obtain ⟨vs_1,hl_1,⟨k_1,v_1,rfl,hk_1,hv_1⟩,hex_1,hsz_1,hce_1⟩:=hat2.extract hx_1 (by omega);obtain ⟨A2,c3,rfl,_⟩:=hk_1.slice;obtain ⟨A4,c5,rfl,_⟩:=hv_1.slice;refine dp 7 hE rfl (p_indexAddr (m:=0+j*5) rfl rfl Tryz.underlying22 sz_35 (by omega) (by omega) (by simp)) (fun _=>hI) ?_;clear hE a;intro a hE;refine dl 8 hE rfl (fun w hS=>r_loadA rfl agg_35 (Inv.seg 0 hS rfl) hsz_1 hex_1) (hI) ?_;clear hE a;intro a hE;refine dp 9 hE rfl (p_move rfl) (fun _=>hI) ?_;clear hE a;intro a hE;refine dp 10 hE rfl (p_move rfl) (fun _=>hI) ?_;clear hE a;intro a hE;refine dp 11 hE rfl (p_arith (z:=((j - 1:Nat):Int)) rfl rfl (sub_z (by omega) (by omega) (by omega))) (fun _=>hI) ?_;clear hE a;intro a hE;obtain ⟨x_6,hx_6⟩: ∃z9,(zs2)[(j - 1)]? =some z9:=⟨_,List.getElem?_eq_getElem (by omega)⟩;obtain ⟨vs_6,hl_6,⟨k_6,v_6,rfl,hk_6,hv_6⟩,hex_6,hsz_6,hce_6⟩:=hat2.extract hx_6 (by omega);obtain ⟨A7,c8,rfl,_⟩:=hk_6.slice;obtain ⟨A9,c10,rfl,_⟩:=hv_6.slice;refine dp 12 hE rfl (p_indexAddr (m:=0+(j - 1)*5) rfl rfl Tryz.underlying22 sz_35 (by omega) (by omega) (by simp)) (fun _=>hI) ?_;clear hE a;intro a hE;refine dl 13 hE rfl (fun w hS=>r_loadA rfl agg_35 (Inv.seg 0 hS rfl) hsz_6 hex_6) (hI) ?_;clear hE a;intro a hE;refine do1 14 hE rfl ?_;refine o_callv hE rfl rfl rfl rfl rfl rfl ent_188 (cmpN_call hI ⟨_,_,rfl,hk_1,hv_1⟩ ⟨_,_,rfl,hk_6,hv_6⟩ (hsm x_1 (hmem _ hx_1)) (hsm x_6 (hmem _ hx_6))) ?_;clear hI hE a;rintro r w ⟨rfl,hI⟩ a hE;refine ⟨fun _=>hI, ?_⟩;refine d_cmp 15 hE rfl (by kernel_rfl) (by kernel_rfl) (by kernel_rfl) rfl (fun _ _ _ _ h=>h) rfl rfl rfl rfl rfl rfl rfl (fun _=>hI) (listed':= #[true,true,true,true,true,true,true,true,true,true,true,true,true,true,true,true,false]) rfl ?_ ?_
   ·intro hcm;replace hcm:=lss_t hcm;clear hE a;intro a hE;refine dp 16 hE rfl (p_pick (b:=true) rfl rfl) (fun _=>hI) ?_;clear hE a;intro a hE;refine d_done (by kernel_rfl) ?_;refine gc 6 hE ?_;refine d_start [15,17] [] (by kernel_rfl) hI rfl rfl ?_;clear hI w;intro w hI;refine dp 0 hE rfl (p_move rfl) (fun _=>hI) (listed':= #[true,false,false,false,false,false,false,false,false,false,false,false,false,false,false,false,false,false]) ?_;clear hE a;intro a hE;refine dp 1 hE rfl (p_move rfl) (fun _=>hI) ?_;clear hE a;intro a hE;refine dp 2 hE rfl (p_move rfl) (fun _=>hI) ?_;clear hE a;intro a hE;refine dp 3 hE rfl (p_move rfl) (fun _=>hI) ?_;clear hE a;intro a hE;refine dp 4 hE rfl (p_arith (z:=((j - 1:Nat):Int)) rfl rfl (sub_z (by omega) (by omega) (by omega))) (fun _=>hI) ?_;clear hE a;intro a hE;refine dp 5 hE rfl (p_move rfl) (fun _=>hI) ?_;clear hE a;intro a hE;refine dp 6 hE rfl (p_move rfl) (fun _=>hI) ?_;clear hE a;intro a hE;refine dp 7 hE rfl (p_arith (z:=((j - 1:Nat):Int)) rfl rfl (sub_z (by omega) (by omega) (by omega))) (fun _=>hI) ?_;clear hE a;intro a hE;refine dp 8 hE rfl (p_indexAddr (m:=0+(j - 1)*5) rfl rfl Tryz.underlying22 sz_35 (by omega) (by omega) (by simp)) (fun _=>hI) ?_;clear hE a;intro a hE;refine dl 9 hE rfl (fun w hS=>r_loadA rfl agg_35 (Inv.seg 0 hS rfl) hsz_6 hex_6) (hI) ?_;clear hE a;intro a hE;refine dp 10 hE rfl (p_move rfl) (fun _=>hI) ?_;clear hE a;intro a hE;refine dp 11 hE rfl (p_move rfl) (fun _=>hI) ?_;clear hE a;intro a hE;refine dp 12 hE rfl (p_indexAddr (m:=0+j*5) rfl rfl Tryz.underlying22 sz_35 (by omega) (by omega) (by simp)) (fun _=>hI) ?_;clear hE a;intro a hE;refine dl 13 hE rfl (fun w hS=>r_loadA rfl agg_35 (Inv.seg 0 hS rfl) hsz_1 hex_1) (hI) ?_;clear hE a;intro a hE;refine dp 14 hE rfl (p_indexAddr (m:=0+j*5) rfl rfl Tryz.underlying22 sz_35 (by omega) (by omega) (by simp)) (fun _=>hI) ?_;clear hE a;intro a hE;refine do1 15 hE rfl ?_;refine o_setRow (ix:=j) (e':=x_6) (vs:= [_,_,_,_,_]) 0 hE hI rfl rfl rfl (by simp) rfl rfl sz_35 hat2 (by first|omega|(simp only [List.length_set];omega)) (by first|exact hcs2|(simp only [List.length_set];exact hcs2)) rfl (UeR.one ⟨_,_,rfl,hk_6,hv_6⟩) ⟨_,_,rfl,hk_6,hv_6⟩ ?_;clear hI w;intro cur11 w hsz11 hat11 hI;have hcs11:(zs2).length*5≤cur11.size:=by rw [hsz11];exact hcs2
    (try simp only [nrm,Value.cells] at hI);refine ⟨nl, ?_⟩;refine dp 16 hE rfl (p_indexAddr (m:=0+(j - 1)*5) rfl rfl Tryz.underlying22 sz_35 (by omega) (by omega) (by simp)) nl ?_;clear hE a;intro a hE;refine do1 17 hE rfl ?_;refine o_setRow (ix:=(j - 1)) (e':=x_1) (vs:= [_,_,_,_,_]) 0 hE hI rfl rfl rfl (by simp) rfl rfl sz_35 hat11 (by first|omega|(simp only [List.length_set];omega)) (by first|exact hcs11|(simp only [List.length_set];exact hcs11)) rfl (UeR.one ⟨_,_,rfl,hk_1,hv_1⟩) ⟨_,_,rfl,hk_1,hv_1⟩ ?_;clear hI w;intro cur12 w hsz12 hat12 hI;have hcs12:(zs2).length*5≤cur12.size:=by rw [hsz12];exact hcs11
    (try simp only [nrm,Value.cells] at hI);refine ⟨nl, ?_⟩;refine d_done (by kernel_rfl) ?_;refine go 4 hE hI ?_;clear hE a;intro a hE;refine zs hE (p_arith (z:=((j - 1:Nat):Int)) rfl rfl (sub_z (by omega) (by omega) (by omega))) ?_;clear hE a;intro a hE;refine go 2 hE hI ?_;clear hE a;intro a hE;exact ⟨(j - 1,cur12,(zs2.set j x_6).set (j - 1) x_1),hE.pick [0,1,2,3,8,9],⟨by show j - 1≤i;omega,by rw [hsz12,hsz11];exact hsz2,(swap_perm hx_6 hx_1).trans hpm2,hup2.swap (by omega) hji hx_6 hx_1 (by omega),hat12,hI⟩,by show j - 1<j;omega⟩
   intro hcm;replace hcm:=lss_f hcm;clear hE a;intro a hE;refine dp 16 hE rfl (p_pick (b:=true) rfl rfl) (fun _=>hI) ?_;clear hE a;intro a hE;refine d_done (by kernel_rfl) ?_;refine gc 8 hE ?_;have hdn:SortTo zs2 (i+1):=hup2.done (.inr ⟨x_6,x_1,by omega,hx_6,hx_1,by omega⟩);refine go 2 hE hI ?_;clear hE a;intro a hE;refine zs hE (p_arith (z:=((i+1:Nat):Int)) rfl rfl (add_z (by omega) (by omega) (by omega))) ?_;clear hE a;intro a hE;refine go 2 hE hI ?_;clear hE a;intro a hE;exact ⟨(i+1,_,zs2),hE.pick [0,1,2,3,8],⟨by show i+1≤xs.length+1;omega,by show 1≤i+1;omega,by omega,hpm2,hdn,hat2,hI⟩,by show xs.length+1 - (i+1)<xs.length+1 - i;omega⟩
  intro hj0;replace hj0:=gtr_f hj0;clear hE a;intro a hE;refine dp 3 hE rfl (p_move rfl) (fun _=>hI) ?_;clear hE a;intro a hE;refine d_skip 4 hE rfl (by kernel_rfl) (by kernel_rfl) (by kernel_rfl) rfl (fun _ _ _ h=>h) rfl rfl rfl (fun _=>hI) (listed':= #[true,true,true,true,true,false,false,false,false,false,false,false,false,false,false,false,false]) rfl ?_;clear hE a;intro a hE;refine d_skip 5 hE rfl (by kernel_rfl) (by kernel_rfl) (by kernel_rfl) rfl (fun _ _ _ h=>h) rfl rfl rfl (fun _=>hI) (listed':= #[true,true,true,true,true,true,false,false,false,false,false,false,false,false,false,false,false]) rfl ?_;clear hE a;intro a hE;refine d_skip 6 hE rfl (by kernel_rfl) (by kernel_rfl) (by kernel_rfl) rfl (fun _ _ _ h=>h) rfl rfl rfl (fun _=>hI) (listed':= #[true,true,true,true,true,true,true,false,false,false,false,false,false,false,false,false,false]) rfl ?_;clear hE a;intro a hE;refine d_skip 7 hE rfl (by kernel_rfl) (by kernel_rfl) (by kernel_rfl) rfl (fun _ _ _ h=>h) rfl rfl rfl (fun _=>hI) (listed':= #[true,true,true,true,true,true,true,true,false,false,false,false,false,false,false,false,false]) rfl ?_;clear hE a;intro a hE;refine d_skip 8 hE rfl (by kernel_rfl) (by kernel_rfl) (by kernel_rfl) rfl (fun _ _ _ h=>h) rfl rfl rfl (fun _=>hI) (listed':= #[true,true,true,true,true,true,true,true,true,false,false,false,false,false,false,false,false]) rfl ?_;clear hE a;intro a hE;refine d_skip 9 hE rfl (by kernel_rfl) (by kernel_rfl) (by kernel_rfl) rfl (fun _ _ _ h=>h) rfl rfl rfl (fun _=>hI) (listed':= #[true,true,true,true,true,true,true,true,true,true,false,false,false,false,false,false,false]) rfl ?_;clear hE a;intro a hE;refine d_skip 10 hE rfl (by kernel_rfl) (by kernel_rfl) (by kernel_rfl) rfl (fun _ _ _ h=>h) rfl rfl rfl (fun _=>hI) (listed':= #[true,true,true,true,true,true,true,true,true,true,true,false,false,false,false,false,false]) rfl ?_;clear hE a;intro a hE;refine d_skip 11 hE rfl (by kernel_rfl) (by kernel_rfl) (by kernel_rfl) rfl (fun _ _ _ h=>h) rfl rfl rfl (fun _=>hI) (listed':= #[true,true,true,true,true,true,true,true,true,true,true,true,false,false,false,false,false]) rfl ?_;clear hE a;intro a hE;refine d_skip 12 hE rfl (by kernel_rfl) (by kernel_rfl) (by kernel_rfl) rfl (fun _ _ _ h=>h) rfl rfl rfl (fun _=>hI) (listed':= #[true,true,true,true,true,true,true,true,true,true,true,true,true,false,false,false,false]) rfl ?_;clear hE a;intro a hE;refine d_skip 13 hE rfl (by kernel_rfl) (by kernel_rfl) (by kernel_rfl) rfl (fun _ _ _ h=>h) rfl rfl rfl (fun _=>hI) (listed':= #[true,true,true,true,true,true,true,true,true,true,true,true,true,true,false,false,false]) rfl ?_;clear hE a;intro a hE;refine d_skip 14 hE rfl (by kernel_rfl) (by kernel_rfl) (by kernel_rfl) rfl (fun _ _ _ h=>h) rfl rfl rfl (fun _=>hI) (listed':= #[true,true,true,true,true,true,true,true,true,true,true,true,true,true,true,false,false]) rfl ?_;clear hE a;intro a hE;refine d_skip 15 hE rfl (by kernel_rfl) (by kernel_rfl) (by kernel_rfl) rfl (fun _ _ _ h=>h) rfl rfl rfl (fun _=>hI) (listed':= #[true,true,true,true,true,true,true,true,true,true,true,true,true,true,true,true,false]) rfl ?_;clear hE a;intro a hE;refine dp 16 hE rfl (p_pick (b:=false) rfl rfl) (fun _=>hI) ?_;clear hE a;intro a hE;refine d_done (by kernel_rfl) ?_;refine gc 8 hE ?_;have hdn:SortTo zs2 (i+1):=hup2.done (.inl (by omega));refine go 2 hE hI ?_;clear hE a;intro a hE;refine zs hE (p_arith (z:=((i+1:Nat):Int)) rfl rfl (add_z (by omega) (by omega) (by omega))) ?_;clear hE a;intro a hE;refine go 2 hE hI ?_;clear hE a;intro a hE;exact ⟨(i+1,_,zs2),hE.pick [0,1,2,3,8],⟨by show i+1≤xs.length+1;omega,by show 1≤i+1;omega,by omega,hpm2,hdn,hat2,hI⟩,by show xs.length+1 - (i+1)<xs.length+1 - i;omega⟩
 intro hlt;replace hlt:=lss_f hlt;clear hE a;intro a hE;refine gc 6 hE ?_;refine ret0 rfl hE ?_;exact ⟨cur1,zs1,hsz1,hpm1,fun p q a b h1 h2=>hso1 p q a b h1 (by omega),hat1,hI⟩
theorem VisS.len {es:Array MapEntry} {seen:Array Nat} {m vis:List (ByteArray×Value)} (h:VisS es seen m vis):vis.length≤m.length:=by
 have hnd:=h.nd;have hsub: ∀k∈vis.map (·.1),k∈m.map (·.1):=fun k hk=>by
  obtain ⟨p,hp,rfl⟩:=List.mem_map.1 hk;exact List.mem_map_of_mem (h.sub p hp)
 have key: ∀(a b:List ByteArray),a.Nodup→(∀k∈a,k∈b)→a.length≤b.length:=by
  intro a;induction a with
  |nil=>intro b _ _;simp
  |cons x a ih=>
   intro b hn hs;have hn':=List.nodup_cons.1 hn;have hx:=hs x (by simp);have:=ih (b.erase x) hn'.2 (fun k hk=>(List.mem_erase_of_ne (fun e=>hn'.1 (by rw [←e];exact hk))).2 (hs k (by simp [hk])));rw [List.length_erase_of_mem hx] at this;have hpos:=List.length_pos_of_mem hx;simp only [List.length_cons];omega
 have:=key _ _ hnd hsub;simpa using this
theorem VisS.less {es:Array MapEntry} {seen:Array Nat} {m vis:List (ByteArray×Value)} {p:ByteArray×Value} (h:VisS es seen m (p::vis)):vis.length<m.length:=by have:=h.len;simp only [List.length_cons] at this;omega
structure VRounds (w0:World) (D0:Sto) (l:Nat) (bw:Nat) (es:Array MapEntry) (clk:Nat) (m:List (ByteArray×Value)) (J:List (ByteArray×Value)→Sto→List Seg→Prop):Prop where
 mono: ∀vis D D' ms,Le D D'→J vis D ms→J vis D' ms
 round: ∀vis p D ms rest w,p∈m→p ∉ vis→vis.length<m.length→Le D0 D→J vis D ms→Inv w0 D ([(bw, .map es clk)]::(ms++rest)) w→
  YieldOk l #[p.2] w fun en w'=> ∃D' ms',en= .returned (.bool true)∧Le D D'∧J (p::vis) D' ms'∧Inv w0 D' ([(bw, .map es clk)]::(ms'++rest)) w'
structure AllOfS (m vis:List (ByteArray×Value)):Prop where
 all: ∀p∈m,p∈vis
 sub: ∀p∈vis,p∈m
 nd:(vis.map (·.1)).Nodup
def ValSeqOk (D:Sto) (v:Value) (bw:Nat) (es:Array MapEntry) (clk:Nat) (m:List (ByteArray×Value)):Prop:= ∃f cap,v= .func (.func f) #[] cap∧enters Tryz.prog f=true∧
 ∀(w0 w:World) (D':Sto) (ms ss:List Seg) (l:Nat) (J:List (ByteArray×Value)→Sto→List Seg→Prop),Le D D'→Inv w0 D' ([(bw, .map es clk)]::(ms++ss)) w→VRounds w0 D' l bw es clk m J→J [] D' ms→
  Calls Tryz.prog f (#[.func (.yield l) #[] #[]]++cap) w (Ret fun _ w'=> ∃vis D2 ms',Le D' D2∧AllOfS m vis∧J vis D2 ms'∧Inv w0 D2 ([(bw, .map es clk)]::(ms'++ss)) w')
theorem OldR.of_mem {D:Sto} {p:ByteArray×Value}: ∀{m:List (ByteArray×Value)} {l:List Ent},OldR D m l→p∈m→ ∃e∈l,p.1=strOf e.key∧ ∃vs,p.2= .agg vs.toArray∧UeR D vs e
 | [], [],_,hp=>by simp at hp
 |(s,v)::m,e::l,⟨h1,h2,h3⟩,hp=>by
  rcases List.mem_cons.1 hp with rfl|hp
  ·exact ⟨e,by simp,h1,h2⟩
  obtain ⟨e',q1,q2⟩:=OldR.of_mem h3 hp;exact ⟨e',by simp [q1],q2⟩
 | [],_::_,h,_=>h.elim
 |_::_, [],h,_=>h.elim
theorem OldR.to_mem {D:Sto} {e:Ent}: ∀{m:List (ByteArray×Value)} {l:List Ent},OldR D m l→e∈l→(strOf e.key∈m.map (·.1))∧Byt e.key
 |(s,v)::m,a::l,⟨h1,⟨vs,_,h2⟩,h3⟩,he=>by
  rcases List.mem_cons.1 he with rfl|he
  ·exact ⟨by simp [h1],h2.byt⟩
  obtain ⟨q1,q2⟩:=OldR.to_mem h3 he;exact ⟨List.mem_cons_of_mem _ q1,q2⟩
 | [], [],_,he=>by simp at he
 | [],_::_,h,_=>h.elim
 |_::_, [],h,_=>h.elim
theorem OldR.len {D:Sto}: ∀{m:List (ByteArray×Value)} {l:List Ent},OldR D m l→m.length=l.length
 | [], [],_=>rfl
 |_::m,_::l,⟨_,_,h⟩=>by simp [OldR.len h]
 | [],_::_,h=>h.elim
 |_::_, [],h=>h.elim
def EsV (old:List Ent) (vis:List (ByteArray×Value)) (es:List Ent):Prop:=es.map (fun e=>strOf e.key)=vis.reverse.map (·.1)∧ ∀e∈es,e∈old
theorem EsV.start (old:List Ent):EsV old [] []:=⟨rfl,by simp⟩
theorem EsV.step {old:List Ent} {vis:List (ByteArray×Value)} {es:List Ent} {p:ByteArray×Value} {e:Ent} (h:EsV old vis es) (he:e∈old) (hp:p.1=strOf e.key):EsV old (p::vis) (es++ [e]):=by
 refine ⟨?_,fun x hx=> ?_⟩
 ·rw [List.map_append,h.1,List.reverse_cons,List.map_append,List.map_cons,List.map_cons,hp];rfl
 rcases List.mem_append.1 hx with q|q
 ·exact h.2 x q
 rw [List.mem_singleton.1 q];exact he
theorem EsV.len {old:List Ent} {vis:List (ByteArray×Value)} {es:List Ent} (h:EsV old vis es):es.length=vis.length:=by have:=congrArg List.length h.1;simpa using this
theorem strict_ext: ∀{l1 l2:List Ent},l1.Pairwise (fun a b=>a.n<b.n)→l2.Pairwise (fun a b=>a.n<b.n)→(∀x,x∈l1↔x∈l2)→l1=l2
 | [], [],_,_,_=>rfl
 | [],b::_,_,_,h=>by have:=(h b).2 (by simp);simp at this
 |a::_, [],_,_,h=>by have:=(h a).1 (by simp);simp at this
 |a::l1,b::l2,h1,h2,h=>by
  have k1:=List.pairwise_cons.1 h1;have k2:=List.pairwise_cons.1 h2;have e:a=b:=by
   rcases List.mem_cons.1 ((h a).1 (by simp)) with q|q
   ·exact q
   rcases List.mem_cons.1 ((h b).2 (by simp)) with q2|q2
   ·exact q2.symm
   have:=k2.1 a q;have:=k1.1 b q2;omega
  subst e;congr 1;refine strict_ext k1.2 k2.2 (fun x=> ?_);constructor
  ·intro hx;rcases List.mem_cons.1 ((h x).1 (by simp [hx])) with q|q
   ·have:=k1.1 x hx;rw [q] at this;omega
   exact q
  intro hx;rcases List.mem_cons.1 ((h x).2 (by simp [hx])) with q|q
  ·have:=k2.1 x hx;rw [q] at this;omega
  exact q
theorem entries_are {D:Sto} {m vis:List (ByteArray×Value)} {old es zs:List Ent} (hor:OldR D m old) (hold:old.Pairwise fun a b=>a.n<b.n∧a.key≠b.key) (hall:AllOfS m vis) (hv:EsV old vis es) (hp:zs.Perm es) (hs:zs.Pairwise fun a b=>a.n≤b.n):zs=old:=by
 have hkey: ∀a∈old,∀b∈old,strOf a.key=strOf b.key→a=b:=fun a ha b hb h=>by
  have hk:=strOf_inj (hor.to_mem ha).2 (hor.to_mem hb).2 h;rcases Classical.em (a=b) with q|q
  ·exact q
  exfalso;have hne: ∀l:List Ent,l.Pairwise (fun a b=>a.n<b.n∧a.key≠b.key)→a∈l→b∈l→False:=by
   intro l;induction l with
   |nil=>intro _ h;simp at h
   |cons x l ih=>
    intro hl h1 h2;have hl':=List.pairwise_cons.1 hl;rcases List.mem_cons.1 h1 with e1|e1<;>rcases List.mem_cons.1 h2 with e2|e2
    ·exact q (e1.trans e2.symm)
    ·exact (hl'.1 b e2).2 (by rw [←e1,hk])
    ·exact (hl'.1 a e1).2 (by rw [←e2,hk])
    exact ih hl'.2 e1 e2
  exact hne old hold ha hb
 have hmem: ∀x,x∈es↔x∈old:=fun x=>by
  refine ⟨hv.2 x,fun hx=> ?_⟩;obtain ⟨p,hp,he⟩:=List.mem_map.1 (hor.to_mem hx).1;have h1:p.1∈es.map (fun e=>strOf e.key):=by rw [hv.1];exact List.mem_map_of_mem (List.mem_reverse.2 (hall.all p hp))
  obtain ⟨y,hy,hye⟩:=List.mem_map.1 h1;have:=hkey y (hv.2 y hy) x hx (by rw [hye,he]);rw [←this];exact hy
 have hnd:es.Nodup:=by
  have h1:(es.map fun e=>strOf e.key).Nodup:=by rw [hv.1,List.map_reverse];exact (List.reverse_perm _).nodup_iff.2 hall.nd
  exact (List.pairwise_map.1 h1).imp fun h e=>h (by rw [e])
 have hzn:zs.Nodup:=hp.nodup_iff.2 hnd;have hnn: ∀a∈old,∀b∈old,a.n=b.n→a=b:=by
  have: ∀l:List Ent,l.Pairwise (fun a b=>a.n<b.n∧a.key≠b.key)→ ∀a∈l,∀b∈l,a.n=b.n→a=b:=by
   intro l;induction l with
   |nil=>intro _ a h;simp at h
   |cons x l ih=>
    intro hl a h1 b h2 hab;have hl':=List.pairwise_cons.1 hl;rcases List.mem_cons.1 h1 with e1|e1<;>rcases List.mem_cons.1 h2 with e2|e2
    ·exact e1.trans e2.symm
    ·have:=(hl'.1 b e2).1;rw [←e1] at this;omega
    ·have:=(hl'.1 a e1).1;rw [←e2] at this;omega
    exact ih hl'.2 a e1 b e2 hab
  exact this old hold
 refine strict_ext ?_ (hold.imp fun h=>h.1) (fun x=>by rw [hp.mem_iff,hmem]);have h2:zs.Pairwise fun a b=>a.n≤b.n∧a≠b:=List.Pairwise.and hs hzn;have h3: ∀x∈zs,x∈old:=fun x hx=>(hmem x).1 (hp.mem_iff.1 hx);refine h2.imp_of_mem fun {a b} ha hb hab=> ?_;have h4:a.n≤b.n:=hab.1;have h5:a.n≠b.n:=fun q=>hab.2 (hnn a (h3 a ha) b (h3 b hb) q);show a.n<b.n;omega
theorem Values1_spec {w0 w:World} {D:Sto} {ss ms:List Seg} {bw clk l:Nat} {es:Array MapEntry} {m:List (ByteArray×Value)} {old:List Ent} {J:List (ByteArray×Value)→Sto→List Seg→Prop} (hI:Inv w0 D ([(bw, .map es clk)]::(ms++ss)) w) (hm:StrMap es clk m) (hor:OldR D m old) {b1 T1:Nat} {fr1:Nat×Nat} (hb:D b1=some (.cells #[.map (some bw)] T1 fr1)) (hR:VRounds w0 D l bw es clk m J) (hJ0:J [] D ms) :
  Calls Tryz.prog 219 #[.func (.yield l) #[] #[], .pointer (some ⟨b1,0,none⟩)] w (Ret fun r w'=> ∃vis D' ms',Le D D'∧AllOfS m vis∧J vis D' ms'∧Inv w0 D' ([(bw, .map es clk)]::(ms'++ss)) w'):=by
 have Hmono:=hR.mono;refine enter (N:=15) Tryz.func219 rfl rfl rfl ?_;intro a hE;refine wsr ?_;refine zl hE (f_load rfl scal_177 (hI.data _ _ (hb)) rfl) ?_;clear hE a;intro a hE;refine l_step rfl (f_range 0 hE hI rfl rfl rfl rfl Tryz.underlying177 rfl ?_);clear hI hE a w;intro a r1 w hE hI;refine gc 2 hE ?_;refine c_loop (X:=Sto×List Seg×Array Nat×List (ByteArray×Value)) (fun y=> [(0,_),(6,_)]) (fun y w=>Le D y.1∧VisS es y.2.2.1 m y.2.2.2∧J y.2.2.2 y.1 y.2.1∧Inv w0 y.1 ([(r1, .mapIter (some bw) clk y.2.2.1 clk)]:: [(bw, .map es clk)]::(y.2.1++ss)) w) (fun y=>m.length - y.2.2.2.length) (D,ms, #[], []) (hE.pick [0,6]) ⟨Le.refl _,VisS.start _ _,hJ0,hI⟩ ?_;clear hE hI a w;rintro ⟨D1,ms1,seen,vis⟩ a w hE ⟨hD1,hv,hJ1,hI⟩;(try dsimp only at hE);(try dsimp only at hD1);(try dsimp only at hv);(try dsimp only at hJ1);(try dsimp only at hI);refine wsr ?_;refine l_step rfl (so_next 1 0 hE hI rfl rfl rfl rfl rfl rfl hm hv ?_ ?_)
 ·clear hE a;intro hall a hE;refine go 8 hE hI ?_;clear hE a;intro a hE;refine ret0 rfl hE ?_;exact ⟨vis,_,ms1,hD1,⟨hall,hv.sub,hv.nd⟩,hJ1,hI.drop⟩
 clear hE hI a w;rintro ⟨pk,pv⟩ hpm hpn seen2 w hv2 hlast hI a hE;obtain ⟨e9,heo9,hpk9,vs9,hpv9,hue9⟩:=hor.of_mem hpm;obtain ⟨ku9,vu9,rfl,hku9,hvu9⟩:=hue9;replace hpv9:pv=_:=hpv9;subst hpv9;obtain ⟨A2,c3,rfl,_⟩:=hku9.slice;obtain ⟨A4,c5,rfl,_⟩:=hvu9.slice;refine go 8 hE hI ?_;clear hE a;intro a hE;refine zl hE (sr_entry rfl (hI.seg 1 rfl) (hI.seg 0 rfl) hm hlast) ?_;clear hE a;intro a hE;refine zx hE ?_;clear hE a;intro a hE;refine l_step rfl (f_alloc (cs:= #[.int .i64 0, .int .i64 0, .slice none 0 0, .bool false, .slice none 0 0]) hE hI rfl rfl rfl zer_35 rfl ?_);clear hI hE a w;intro a b6 w hE hI;refine l_step rfl (f_store (l:= [_,_,_,_,_]) (ss':=_::_) 0 hE hI rfl rfl rfl rfl rfl sz_35 (by simp [Value.cells,Value.oneCell',pgCells,rcCells,zPg,errV,zUe,zPlan]) rfl rfl rfl ?_);clear hI w;intro w hI;refine wnt ?_;refine wp_seq ?_;refine y_region ?_;refine y_step rfl (fun _ h=>by cases h) (o_pure hE rfl rfl (p_move rfl).run ?_);clear hE a;intro a hE;refine y_step rfl (fun _ h=>by cases h) (o_pure hE rfl rfl (f_loadA (vs:= [_,_,_,_,_]) rfl agg_35 (hI.seg 0 rfl) rfl rfl) ?_);clear hE a;intro a hE;replace hI:=hI.erase 0;obtain ⟨rr,hl0,hz0,hround⟩:=hR.round vis _ _ ms1 _ w hpm hpn hv2.less hD1 hJ1 hI.give;refine y_yield hE rfl rfl rfl rfl rfl rfl hl0 hz0 (hround.mono ?_);clear hl0 hz0 hround rr hI hE a w;rintro en w ⟨D9,ms9,rfl,hD9,hJ9,hI⟩;refine ⟨_,rfl, ?_⟩;intro a hE;replace hI:=hI.fetch;refine y_step rfl (fun _ h=>by cases h) (o_pure hE rfl rfl (p_not rfl).run ?_);clear hE a;intro a hE;refine y_nil ?_;refine gc 5 hE ?_;exact ⟨(D9,ms9,seen2,_::vis),hE.pick [0,6],⟨hD1.trans hD9,hv2,hJ9,hI⟩,by have:=hv2.len;simp only [List.length_cons] at this;show m.length - (vis.length+1)<m.length - vis.length;omega⟩
theorem MValues_spec {w0 w:World} {D:Sto} {ss:List Seg} (hI:Inv w0 D ss w) {bw clk:Nat} {es:Array MapEntry} {m:List (ByteArray×Value)} {old:List Ent} (hm:StrMap es clk m) (hor:OldR D m old) :
  Calls Tryz.prog 187 #[.map (some bw)] w (Ret fun r w'=> ∃D',Le D D'∧ValSeqOk D' r bw es clk m∧Inv w0 D' ss w'):=by
 refine enter (N:=4) Tryz.func187 rfl rfl rfl ?_;intro a hE;refine wsr ?_;refine l_step rfl (f_box (cs:= #[_]) hE hI rfl rfl rfl rfl rfl ?_);clear hI hE a w;intro a b1 w hE hI;refine go 3 hE hI ?_;clear hE a;intro a hE;refine zs hE (p_func (vs:= #[]) (us:= #[.pointer (some ⟨b1,0,none⟩)]) rfl rfl) ?_;clear hE a;intro a hE;refine go 3 hE hI ?_;clear hE a;intro a hE;refine ret1 rfl hE rfl ?_;obtain ⟨Da,hDa,hIa,hda⟩:=Inv.shut_one hI;exact ⟨Da,hDa,⟨219,_,rfl,ent_219,fun w0 w D9 ms ss l J hD9 hI hR hJ=>Values1_spec hI hm (hor.mono (hDa.trans hD9)) (hD9 _ _ hda) hR hJ⟩,hIa⟩
theorem VAppendSeq_spec {w0 w:World} {D:Sto} {ss:List Seg} {bw clk:Nat} {es:Array MapEntry} {m:List (ByteArray×Value)} {old:List Ent} (hI:Inv w0 D ([(bw, .map es clk)]::ss) w) {vq:Value} (hq:ValSeqOk D vq bw es clk m) (hlm:m.length≤100000) (hor:OldR D m old) :
  Calls Tryz.prog 239 #[.slice none 0 0,vq] w (Ret fun r w'=> ∃vis es9 D' so,Le D D'∧AllOfS m vis∧EsV old vis es9∧OR 5 UeR D' 35 r es9 so∧Inv w0 D' (so:: [(bw, .map es clk)]::ss) w'):=by
 obtain ⟨fq,capq,rfl,hfq,hcall⟩:=hq;refine enterX (N:=13) Tryz.func239 rfl rfl rfl ?_;intro a hE;refine x_seq ?_;refine x_region_list (by kernel_rfl) (fun _ _ h=>h) ?_;refine l_step rfl (f_box (cs:= #[_]) hE hI rfl rfl rfl rfl rfl ?_);clear hI hE a w;intro a b1 w hE hI;refine za hE ?_;clear hE a;intro a hE;refine wpList_nil ?_;refine x_then_normal ?_;refine x_seq ?_;refine x_seq ?_;refine x_region_list (by kernel_rfl) (fun _ _ h=>h) ?_;refine zm hE ?_;clear hE a;intro a hE;refine wpList_nil ?_;refine x_then_normal ?_;refine x_block ?_;refine x_range hE hI rfl hfq ?_;clear hI w;intro fn lp kd tm rr w hT hR0 hI;replace hI:=hI.nilseg;replace hI:=hI.bring 3;replace hI:=hI.bring 3;replace hI:=hI.bring 3;replace hI:=hI.bring 4;refine (hcall _ _ _ [_,_,_,_] _ lp (fun vis9 D9 ms9=> ∃es9 vo so,ms9= [[(lp, .loop rr)], [(kd, .deferred (some []))], [(b1, .cells #[vo] 22 (0,0))],so]∧OR 5 UeR D9 35 vo es9 so∧EsV old vis9 es9) (Le.refl _) hI ⟨?_, ?_⟩ ⟨[], .slice none 0 0, [],rfl,OR.nil _ _ _ _,EsV.start _⟩).mono ?_
 ·rintro vis9 D9 D8 ms9 hD8 ⟨es9,vo,so,h1,h2,h3⟩;exact ⟨es9,vo,so,h1,OR.mono UeR.keeps h2 hD8,h3⟩
 ·clear hI hE a w;rintro vis9 p9 D9 ms9 rest w hp9 hn9 hl9 hD9 ⟨es9,vo,so,rfl,hO9,hev9⟩ hI;simp only [List.cons_append,List.nil_append] at hI;subst hR0;obtain ⟨Ao,co,rfl,_⟩:=hO9.slice;have hkl:=hev9.len;obtain ⟨e9,heo9,hpk9,vs9,hpv9,hue9⟩:=hor.of_mem hp9;obtain ⟨ku9,vu9,rfl,hku9,hvu9⟩:=hue9;refine ⟨_,hI.seg 1 rfl,rfl,x_round1 hT rfl rfl rfl ?_⟩;intro a hE;clear hT;rw [hpv9] at hE;obtain ⟨A2,c3,rfl,_⟩:=hku9.slice;obtain ⟨A4,c5,rfl,_⟩:=hvu9.slice;refine x_region_list (by kernel_rfl) (fun _ _ h=>h) ?_;refine l_step rfl (f_alloc (cs:= #[.int .i64 0, .int .i64 0, .slice none 0 0, .bool false, .slice none 0 0]) hE hI rfl rfl rfl zer_35 rfl ?_);clear hI hE a w;intro a b6 w hE hI;refine l_step rfl (f_store (l:= [_,_,_,_,_]) (ss':=_::_) 0 hE hI rfl rfl rfl rfl rfl sz_35 (by simp [Value.cells,Value.oneCell',pgCells,rcCells,zPg,errV,zUe,zPlan]) rfl rfl rfl ?_);clear hI w;intro w hI;refine wpList_nil ?_;refine x_begin 2 hI rfl rfl ?_;clear hI w;intro w hI;(try simp only [nrm,Value.cells] at hI);refine x_block ?_;refine x_region_list (by kernel_rfl) (fun _ _ h=>h) ?_;refine go 2 hE hI ?_;clear hE a;intro a hE;refine l_step rfl (f_lit (vs:= [(0,_)]) (l:= [_,_,_,_,_]) hE hI rfl rfl rfl rfl Tryz.underlying22 zs_35 rfl rfl rfl ?_);clear hI hE a w;intro a b7 w hE hI;refine l_step rfl (o_appendOR (R:=UeR) (el:=e9) 6 0 hE hI rfl rfl rfl rfl rfl Tryz.underlying22 zsb_35 rfl rfl rfl hO9 rfl rfl (⟨_,_,rfl,(hku9.mono hD9),(hvu9.mono hD9)⟩) (by simp [Value.oneCell']) (by omega) (by omega) ?_);clear hI hE a w;intro v8 s9 w hO10 hI a hE;obtain ⟨A11,c12,rfl,_⟩:=hO10.slice;replace hI:=hI.erase 0;(try simp only [nrm,Value.cells] at hI);refine l_step rfl (f_store (l:= [_]) (ss':=_::_::_::_::_::_) 4 hE hI rfl rfl rfl rfl rfl sz_22 (by simp [Value.cells,Value.oneCell',pgCells,rcCells,zPg,errV,zUe,zPlan]) rfl rfl rfl ?_);clear hI w;intro w hI;refine wpList_nil ?_;refine x_blk_normal ?_;refine x_endN 2 hI rfl ?_;clear hI w;intro w hI;(try simp only [nrm,Value.cells] at hI);replace hI:=hI.erase 0;exact ⟨D9,_,rfl,Le.refl _,⟨_,_,_,rfl,hO10,hev9.step heo9 hpk9⟩,hI⟩
 rintro _ w ⟨_,rfl,vis,D9,ms9,hD9,hall,⟨es9,vo,so,rfl,hO9,hev9⟩,hI⟩;simp only [List.cons_append,List.nil_append] at hI;subst hR0;obtain ⟨Ao,co,rfl,_⟩:=hO9.slice;refine x_done (s:= .ready) 1 hI rfl (fun h=>by cases h) ?_;clear hI w;intro w hI;(try simp only [nrm,Value.cells] at hI);refine x_blk_normal ?_;refine x_then_normal ?_;refine x_seq ?_;refine x_region_list (by kernel_rfl) (fun _ _ h=>h) ?_;refine go 2 hE hI ?_;clear hE a;intro a hE;refine wpList_nil ?_;refine x_then_normal ?_;refine x_ret ?_;refine x_mark 1 hI rfl ?_;clear hI w;intro w hI;replace hI:=hI.erase 1;(try simp only [nrm,Value.cells] at hI);refine x_fin ?_;refine ret1 rfl hE rfl ?_;replace hI:=hI.erase 1;replace hI:=hI.bring 1;exact ⟨vis,es9,D9,_,hD9,hall,hev9,hO9,hI⟩
theorem VCollect_spec {w0 w:World} {D:Sto} {ss:List Seg} {bw clk:Nat} {es:Array MapEntry} {m:List (ByteArray×Value)} {old:List Ent} (hI:Inv w0 D ([(bw, .map es clk)]::ss) w) {vq:Value} (hq:ValSeqOk D vq bw es clk m) (hlm:m.length≤100000) (hor:OldR D m old) :
  Calls Tryz.prog 217 #[vq] w (Ret fun r w'=> ∃vis es9 D' so,Le D D'∧AllOfS m vis∧EsV old vis es9∧OR 5 UeR D' 35 r es9 so∧Inv w0 D' (so:: [(bw, .map es clk)]::ss) w'):=by
 refine enter (N:=5) Tryz.func217 rfl rfl rfl ?_;intro a hE;refine go 5 hE hI ?_;clear hE a;intro a hE;refine l_step rfl (o_call hE rfl rfl rfl rfl ent_239 (VAppendSeq_spec hI hq hlm hor) ?_);clear hI hE a;rintro r w ⟨vis,es9,D1,so3,hD2,hall,hev9,hO4,hI⟩ a hE;obtain ⟨A5,c6,rfl,_⟩:=hO4.slice;refine go 3 hE hI ?_;clear hE a;intro a hE;refine ret1 rfl hE rfl ?_;exact ⟨vis,es9,D1,_,hD2,hall,hev9,hO4,hI⟩
end Go.Proofs.YtkknmpkcfpdllaaGreatDoor.B
