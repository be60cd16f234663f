/- What functions of the program compute, each function once: steps over the model, and the plain law of it. -/
import Derived.Test.YtkknmpkcfpdllaaGreatDoorTTx10
import Derived.Shelf.SortG.Plain
import Derived.Shelf.SortG.SortNone
import Derived.Test.YtkknmpkcfpdllaaGreatDoorTTx17
import Derived.Test.YtkknmpkcfpdllaaGreatDoorTFacts
namespace Go.Proofs.YtkknmpkcfpdllaaGreatDoor.B
open Go Go.Proofs Go.Shelf
set_option linter.unusedVariables false
set_option linter.unusedSimpArgs false
set_option maxRecDepth 20000
def sortI64_ren:Go.Shelf.Ren:=⟨fun|53=>154|64=>182|63=>185|78=>206|79=>207|70=>208|71=>209|72=>210|73=>211|74=>212|75=>213|59=>214|76=>215|77=>216|88=>235|89=>230|90=>231|91=>236|92=>237|68=>238|96=>246|n=>n,fun|22=>47|23=>2|3=>3|51=>87|0=>0|67=>275|69=>232|4=>4|61=>269|60=>268|44=>138|5=>5|9=>9|75=>290|79=>294|83=>303|84=>304|n=>n,fun|n=>n⟩
theorem sortI64:Go.Proofs.SlLaysN.n53 Tryz.prog sortI64_ren:={
  mixed:=by kernel_rfl
  f53:=⟨Tryz.f154.name,by decide,Tryz.func154.trans (congrArg some (by kernel_rfl))⟩
  f59:=⟨Tryz.f214.name,by decide,Tryz.func214.trans (congrArg some (by kernel_rfl))⟩
  f63:=⟨Tryz.f185.name,by decide,Tryz.func185.trans (congrArg some (by kernel_rfl))⟩
  f64:=Tryz.func182.trans (congrArg some (by kernel_rfl))
  f68:=⟨Tryz.f238.name,by decide,Tryz.func238.trans (congrArg some (by kernel_rfl))⟩
  f70:=⟨Tryz.f208.name,by decide,Tryz.func208.trans (congrArg some (by kernel_rfl))⟩
  f71:=⟨Tryz.f209.name,by decide,Tryz.func209.trans (congrArg some (by kernel_rfl))⟩
  f72:=⟨Tryz.f210.name,by decide,Tryz.func210.trans (congrArg some (by kernel_rfl))⟩
  f73:=⟨Tryz.f211.name,by decide,Tryz.func211.trans (congrArg some (by kernel_rfl))⟩
  f74:=⟨Tryz.f212.name,by decide,Tryz.func212.trans (congrArg some (by kernel_rfl))⟩
  f75:=⟨Tryz.f213.name,by decide,Tryz.func213.trans (congrArg some (by kernel_rfl))⟩
  f76:=⟨Tryz.f215.name,by decide,Tryz.func215.trans (congrArg some (by kernel_rfl))⟩
  f77:=⟨Tryz.f216.name,by decide,Tryz.func216.trans (congrArg some (by kernel_rfl))⟩
  f78:=Tryz.func206.trans (congrArg some (by kernel_rfl))
  f79:=Tryz.func207.trans (congrArg some (by kernel_rfl))
  f88:=⟨Tryz.f235.name,by decide,Tryz.func235.trans (congrArg some (by kernel_rfl))⟩
  f89:=Tryz.func230.trans (congrArg some (by kernel_rfl))
  f90:=Tryz.func231.trans (congrArg some (by kernel_rfl))
  f91:=⟨Tryz.f236.name,by decide,Tryz.func236.trans (congrArg some (by kernel_rfl))⟩
  f92:=⟨Tryz.f237.name,by decide,Tryz.func237.trans (congrArg some (by kernel_rfl))⟩
  f96:=⟨Tryz.f246.name,by decide,Tryz.func246.trans (congrArg some (by kernel_rfl))⟩
  t0:=Tryz.underlying0
  a0:=Tryz.isAgg0
  z0:=Tryz.sizeOf0
  v0:=Tryz.zeroValue0
  t3:=Tryz.underlying3
  a3:=Tryz.isAgg3
  z3:=Tryz.sizeOf3
  v3:=Tryz.zeroValue3
  t4:=Tryz.underlying4
  a4:=Tryz.isAgg4
  z4:=Tryz.sizeOf4
  v4:=Tryz.zeroValue4
  t5:=Tryz.underlying5
  a5:=Tryz.isAgg5
  z5:=Tryz.sizeOf5
  v5:=Tryz.zeroValue5
  t9:=Tryz.underlying9
  a9:=Tryz.isAgg9
  z9:=Tryz.sizeOf9
  v9:=Tryz.zeroValue9
  t22:=Tryz.underlying47
  a22:=Tryz.isAgg47
  z22:=Tryz.sizeOf47
  v22:=Tryz.zeroValue47
  t23:=Tryz.underlying2
  a23:=Tryz.isAgg2
  z23:=Tryz.sizeOf2
  v23:=Tryz.zeroValue2
  t44:=Tryz.underlying138
  a44:=Tryz.isAgg138
  z44:=Tryz.sizeOf138
  v44:=Tryz.zeroValue138
  t51:=Tryz.underlying87
  a51:=Tryz.isAgg87
  z51:=Tryz.sizeOf87
  v51:=Tryz.zeroValue87
  t60:=Tryz.underlying268
  a60:=Tryz.isAgg268
  z60:=Tryz.sizeOf268
  v60:=Tryz.zeroValue268
  t61:=Tryz.underlying269
  a61:=Tryz.isAgg269
  z61:=Tryz.sizeOf269
  v61:=Tryz.zeroValue269
  t67:=Tryz.underlying275
  a67:=Tryz.isAgg275
  z67:=Tryz.sizeOf275
  v67:=Tryz.zeroValue275
  t69:=Tryz.underlying232
  a69:=Tryz.isAgg232
  z69:=Tryz.sizeOf232
  v69:=Tryz.zeroValue232
  t75:=Tryz.underlying290
  a75:=Tryz.isAgg290
  z75:=Tryz.sizeOf290
  v75:=Tryz.zeroValue290
  t79:=Tryz.underlying294
  a79:=Tryz.isAgg294
  z79:=Tryz.sizeOf294
  v79:=Tryz.zeroValue294
  t83:=Tryz.underlying303
  a83:=Tryz.isAgg303
  z83:=Tryz.sizeOf303
  v83:=Tryz.zeroValue303
  t84:=Tryz.underlying304
  a84:=Tryz.isAgg304
  z84:=Tryz.sizeOf304
  v84:=Tryz.zeroValue304}
theorem heap_putRow {w:World} {b k:Nat} {d:Array Int} (hk:k≠b):(Sort.putRow (Value.int .i64) w b 0 d).heap[k]? =w.heap[k]? :=by unfold Sort.putRow Sort.mapBlock;show (w.heap.modify b _)[k]? =_;rw [Array.getElem?_modify,if_neg (fun e=>hk e.symm)]
theorem heap_putRow_at {w:World} {b T:Nat} {cs:Array Value} {fr:Nat×Nat} {d:Array Int} (h:w.heap[b]? =some (.cells cs T fr)):(Sort.putRow (Value.int .i64) w b 0 d).heap[b]? =some (.cells (Sort.putCells (Value.int .i64) 0 d cs) T fr):=by unfold Sort.putRow Sort.mapBlock;show (w.heap.modify b _)[b]? =_;rw [Array.getElem?_modify,if_pos rfl,h];rfl
theorem heap_grow {w:World} {os:Array Obj} {k:Nat} {o:Obj} (h:w.heap[k]? =some o):(Sort.grow w os).heap[k]? =some o:=by have hlt:=heap_lt h;show (w.heap++os)[k]? =some o;rw [Array.getElem?_append_left hlt];exact h
theorem Inv.sorted {w0 w:World} {D:Sto} {ss:List Seg} {b T n:Nat} {cs:Array Value} {d:Array Int} {os:Array Obj} (h:Inv w0 D ([(b, .cells cs T (0,0))]::ss) w) :
    Inv w0 D ([(b, .cells (Sort.putCells (Value.int .i64) 0 d cs) T (0,0))]::ss) (Sort.grow (Sort.putRow (Value.int .i64) (Sort.ahead w n) b 0 d) os):=by
  have hb:=h.head;have hD:D b=none:=h.apart (b, .cells cs T (0,0)) (by simp);have hn:=h.nodup;simp only [List.flatten_cons,List.map_cons,List.singleton_append,List.nodup_cons] at hn;have hother: ∀k o,k≠b->w.heap[k]? =some o->(Sort.grow (Sort.putRow (Value.int .i64) (Sort.ahead w n) b 0 d) os).heap[k]? =some o:=fun k o hk ho=>heap_grow ((heap_putRow hk).trans ho);refine ⟨h.os,h.tape,h.output, ?_,fun k o hk=> ?_,fun p hp=> ?_,fun p hp=> ?_, ?_⟩
  ·have h1:(Sort.putRow (Value.int .i64) (Sort.ahead w n) b 0 d).heap.size=w.heap.size:=Sort.size_putRow _ _ _ _ _;show w0.heap.size<=((Sort.putRow (Value.int .i64) (Sort.ahead w n) b 0 d).heap++os).size;rw [Array.size_append,h1];have:=h.size;omega
  ·refine hother k o (fun e=> ?_) (h.data k o hk);rw [e,hD] at hk;cases hk
  ·simp only [List.flatten_cons,List.singleton_append,List.mem_cons] at hp;rcases hp with rfl|hp
   ·exact heap_grow (heap_putRow_at (w:=Sort.ahead w n) hb)
   ·refine hother p.1 p.2 (fun e=>hn.1 ?_) (h.own p (by simp [hp]));rw [<-e];exact List.mem_map_of_mem hp
  ·simp only [List.flatten_cons,List.singleton_append,List.mem_cons] at hp;rcases hp with rfl|hp
   ·exact hD
   ·exact h.apart p (by simp [hp])
  ·simpa using h.nodup
theorem Sort64_spec {w0 w:World} {D:Sto} {ss:List Seg} {so:Seg} {T:Nat} {v:Value} {xs:List Nat} (I:Inv w0 D (so::ss) w) (hO:OR 1 NaR D T v xs so) (hlen:xs.length<=1000000) :
    Calls Tryz.prog 154 #[v] w (Ret fun r w'=> ∃ys so',ys.length=xs.length/\(∀y∈ys,y∈xs)/\OR 1 NaR D T v ys so'/\Inv w0 D (so'::ss) w'):=by
  obtain ⟨A,c,rfl,_⟩:=hO.slice;cases A with
  |none=>
    obtain ⟨hx,hn,hc,hs⟩:=OR.none hO;subst hx;refine Calls.mono (AnyG.slices_Sort_int_none sortI64 none c w) ?_;rintro e w' ⟨rfl,rfl⟩;exact ⟨_,rfl, [],so,rfl,by simp,hO,I⟩
  |some A=>
    obtain ⟨g,cur,rfl,hn,hs,hle,hcm,hsz,hat⟩:=OR.some hO;subst hs;have hcell: ∀j,(hj:j<xs.length)->cur[j]? =some (.int .i64 ((xs[j]:Nat):Int)):=fun j hj=>by
      obtain ⟨vs,h1,h2,h3⟩:=hat j xs[j] (List.getElem?_eq_getElem hj);have:=h3 0 (.int .i64 ((xs[j]:Nat):Int)) (by rw [show vs= [.int .i64 ((xs[j]:Nat):Int)] from h2];rfl);simpa using this
    have hb:=I.head;have hH:Sort.Holds (Value.int .i64) w g 0 (xs.map fun (x:Nat)=>(x:Int)).toArray:=fun j hj=>by
      have hj':j<xs.length:=by simpa using hj
      refine ⟨?_, ?_⟩
      ·rw [cell_of hb,Nat.zero_add,hcell j hj'];simp [hj']
      ·simp [World.frozen?,hb]
    have hl:(xs.map fun (x:Nat)=>(x:Int)).length=xs.length:=by simp
    have hcall:=AnyG.slices_Sort_int sortI64 g 0 c (xs.map fun (x:Nat)=>(x:Int)) w hH (heap_lt hb) (by rw [hl];omega);rw [hl] at hcall;refine Calls.mono hcall ?_;rintro e w' ⟨rfl,n,os,rfl⟩;obtain ⟨zs,hzs⟩: ∃z,z=(xs.map fun (x:Nat)=>(x:Int)).mergeSort fun x y=>decide (x<=y):=⟨_,rfl⟩;rw [<-hzs];have hpm:zs.Perm (xs.map fun (x:Nat)=>(x:Int)):=by rw [hzs];exact List.mergeSort_perm _ _
    have hzl:zs.length=xs.length:=by rw [hpm.length_eq,hl]
    have hnat: ∀z∈zs,∃x∈xs,(x:Int)=z:=fun z hz=>by
      have:=hpm.mem_iff.1 hz;obtain ⟨x,hx,he⟩:=List.mem_map.1 this;exact ⟨x,hx,he⟩
    refine ⟨_,rfl,zs.map Int.toNat,_,by simp [hzl],fun y hy=> ?_,OR.ofAt (by simp [hzl]) (by simp [hzl];exact hle) hcm (by rw [show (Sort.putCells (Value.int .i64) 0 zs.toArray cur).size=cur.size from Array.size_mapIdx ..];exact hsz) ?_,I.sorted⟩
    ·obtain ⟨z,hz,rfl⟩:=List.mem_map.1 hy;obtain ⟨x,hx,rfl⟩:=hnat z hz;simpa using hx
    ·intro i y hy;have hi:=(List.getElem?_eq_some_iff.1 hy).1;rw [List.length_map] at hi;have hy2:y=(zs[i]).toNat:=by
       have:=(List.getElem?_eq_some_iff.1 hy).2;simpa using this.symm
     obtain ⟨x,hx,hxz⟩:=hnat zs[i] (List.getElem_mem hi);refine ⟨[.int .i64 ((y:Nat):Int)],rfl,rfl,fun j u hu=> ?_⟩;cases j with
     |zero=>
       obtain rfl:u= .int .i64 ((y:Nat):Int):=by simpa using hu.symm
       have hc:=hcell i (by omega);simp only [Sort.putCells,Nat.zero_add,Nat.mul_one,Nat.add_zero,Array.getElem?_mapIdx,hc,Option.map_some];rw [if_pos ⟨by omega,by simpa using hi⟩];have:(y:Int)=zs[i]:=by rw [hy2,<-hxz];simp
       simp [this,hi]
     |succ j=>simp at hu
open Go Go.Proofs
set_option maxHeartbeats 8000000
theorem Keys64_1_spec {w0 w:World} {D:Sto} {ss ms:List Seg} {bw clk l:Nat} {es:Array MapEntry} {m:List (Int×Value)} {J:List (Int×Value)->Sto->List Seg->Prop} (I:Inv w0 D ([(bw, .map es clk)]::(ms++ss)) w) (hm:IntMap es clk m) {b1 T1:Nat} {fr1:Nat×Nat} (hb:D b1=some (.cells #[.map (some bw)] T1 fr1)) (hR:KRounds w0 D l bw es clk m J) (hJ0:J [] D ms) :
  Calls Tryz.prog 155 #[.func (.yield l) #[] #[], .pointer (some ⟨b1,0,none⟩)] w (Ret fun r w'=> ∃vis D' ms',Le D D'/\AllOf m vis/\J vis D' ms'/\Inv w0 D' ([(bw, .map es clk)]::(ms'++ss)) w'):=by
 have Hmono:=hR.mono;refine enter (N:=14) Tryz.func155 rfl rfl rfl ?_;intro a Z;refine wsr ?_;refine zl Z (f_load rfl scal_173 (I.data _ _ (hb)) rfl) ?_;clear Z a;intro a Z;refine l_step rfl (f_range 0 Z I rfl rfl rfl rfl Tryz.underlying173 rfl ?_);clear I Z a w;intro a r1 w Z I;refine gc 2 Z ?_;refine c_loop (X:=Sto×List Seg×Array Nat×List (Int×Value)) (fun y=> [(0,_),(5,_)]) (fun y w=>Le D y.1/\Vis es y.2.2.1 m y.2.2.2/\J y.2.2.2 y.1 y.2.1/\Inv w0 y.1 ([(r1, .mapIter (some bw) clk y.2.2.1 clk)]:: [(bw, .map es clk)]::(y.2.1++ss)) w) (fun y=>m.length - y.2.2.2.length) (D,ms, #[], []) (Z.pick [0,5]) ⟨Le.refl _,Vis.start _ _,hJ0,I⟩ ?_;clear Z I a w;rintro ⟨D1,ms1,seen,vis⟩ a w Z ⟨hD1,hv,hJ1,I⟩;(try dsimp only at Z);(try dsimp only at hD1);(try dsimp only at hv);(try dsimp only at hJ1);(try dsimp only at I);refine wsr ?_;refine l_step rfl (o_next 1 0 Z I rfl rfl rfl rfl rfl rfl hm hv ?_ ?_)
 ·clear Z a;intro hall a Z;refine go 8 Z I ?_;clear Z a;intro a Z;refine ret0 rfl Z ?_;exact ⟨vis,_,ms1,hD1,⟨hall,hv.sub,hv.nd⟩,hJ1,I.drop⟩
 clear Z I a w;rintro ⟨pk,pv⟩ hpm hpn seen2 w hv2 hlast I a Z;refine go 8 Z I ?_;clear Z a;intro a Z;refine zl Z (r_entry rfl (I.seg 1 rfl) (I.seg 0 rfl) hm hlast) ?_;clear Z a;intro a Z;refine go 3 Z I ?_;clear Z a;intro a Z;refine wp_seq ?_;refine y_region ?_;refine y_step rfl (fun _ h=>by cases h) (o_pure Z rfl rfl (p_move rfl).run ?_);clear Z a;intro a Z;refine y_step rfl (fun _ h=>by cases h) (o_pure Z rfl rfl (p_move rfl).run ?_);clear Z a;intro a Z;obtain ⟨rr,hl0,hz0,hround⟩:=hR.round vis (pk,pv) _ ms1 _ w hpm hpn hv2.less hD1 hJ1 I.give;refine y_yield Z rfl rfl rfl rfl rfl rfl hl0 hz0 (hround.mono ?_);clear hl0 hz0 hround rr I Z a w;rintro en w ⟨D9,ms9,rfl,hD9,hJ9,I⟩;refine ⟨_,rfl, ?_⟩;intro a Z;replace I:=I.fetch;refine y_step rfl (fun _ h=>by cases h) (o_pure Z rfl rfl (p_not rfl).run ?_);clear Z a;intro a Z;refine y_nil ?_;refine gc 5 Z ?_;exact ⟨(D9,ms9,seen2,(pk,pv)::vis),Z.pick [0,5],⟨hD1.trans hD9,hv2,hJ9,I⟩,by have:=hv2.len;simp only [List.length_cons] at this;show m.length - (vis.length+1)<m.length - vis.length;omega⟩
theorem MKeys64_spec {w0 w:World} {D:Sto} {ss:List Seg} (I:Inv w0 D ss w) {bw clk:Nat} {es:Array MapEntry} {m:List (Int×Value)} (hm:IntMap es clk m) :
  Calls Tryz.prog 101 #[.map (some bw)] w (Ret fun r w'=> ∃D',Le D D'/\KeySeqOk D' r bw es clk m/\Inv w0 D' ss w'):=by
 refine enter (N:=4) Tryz.func101 rfl rfl rfl ?_;intro a Z;refine wsr ?_;refine l_step rfl (f_box (cs:= #[_]) Z I rfl rfl rfl rfl rfl ?_);clear I Z a w;intro a b1 w Z I;refine go 3 Z I ?_;clear Z a;intro a Z;refine zs Z (p_func (vs:= #[]) (us:= #[.pointer (some ⟨b1,0,none⟩)]) rfl rfl) ?_;clear Z a;intro a Z;refine go 3 Z I ?_;clear Z a;intro a Z;refine rt1 Z ?_;obtain ⟨Da,hDa,hIa,hda⟩:=Inv.shut_one I;exact ⟨Da,hDa,⟨155,_,rfl,ent_155,fun w0 w D9 ms ss l J hD9 I hR hJ=>Keys64_1_spec I hm (hD9 _ _ hda) hR hJ⟩,hIa⟩
theorem AppendSeq64_spec {w0 w:World} {D:Sto} {ss:List Seg} {bw clk:Nat} {es:Array MapEntry} {m:List (Int×Value)} (I:Inv w0 D ([(bw, .map es clk)]::ss) w) {vq:Value} (hq:KeySeqOk D vq bw es clk m) (hlm:m.length<=100000) (h0: ∀p∈m,0<=p.1) :
  Calls Tryz.prog 184 #[.slice none 0 0,vq] w (Ret fun r w'=> ∃vis D' so,Le D D'/\AllOf m vis/\OR 1 NaR D' 2 r (keysN vis) so/\Inv w0 D' (so:: [(bw, .map es clk)]::ss) w'):=by
 obtain ⟨fq,capq,rfl,hfq,hcall⟩:=hq;refine enterX (N:=13) Tryz.func184 rfl rfl rfl ?_;intro a Z;refine x_seq ?_;refine xrl ?_;refine l_step rfl (f_box (cs:= #[_]) Z I rfl rfl rfl rfl rfl ?_);clear I Z a w;intro a b1 w Z I;refine za Z ?_;clear Z a;intro a Z;refine wpList_nil ?_;refine x_then_normal ?_;refine x_seq ?_;refine x_seq ?_;refine xrl ?_;refine zm Z ?_;clear Z a;intro a Z;refine wpList_nil ?_;refine x_then_normal ?_;refine x_block ?_;refine x_range Z I rfl hfq ?_;clear I w;intro fn lp kd tm rr w hT hR0 I;replace I:=I.nilseg;replace I:=I.bring 3;replace I:=I.bring 3;replace I:=I.bring 3;replace I:=I.bring 4;refine (hcall _ _ _ [_,_,_,_] _ lp (fun vis9 D9 ms9=> ∃vo so,ms9= [[(lp, .loop rr)], [(kd, .deferred (some []))], [(b1, .cells #[vo] 47 (0,0))],so]/\OR 1 NaR D9 2 vo (keysN vis9) so) (Le.refl _) I ⟨?_, ?_⟩ ⟨.slice none 0 0, [],rfl,OR.nil _ _ _ _⟩).mono ?_
 ·rintro vis9 D9 D8 ms9 hD8 ⟨vo,so,h1,h2⟩;exact ⟨vo,so,h1,NaR.le h2 hD8⟩
 ·clear I Z a w;rintro vis9 p9 D9 ms9 rest w hp9 hn9 hl9 hD9 ⟨vo,so,rfl,hO9⟩ I;simp only [List.cons_append,List.nil_append] at I;subst hR0;obtain ⟨Ao,co,rfl,_⟩:=hO9.slice;have hp0:=h0 p9 hp9;have hpe:p9.1=((p9.1.toNat:Nat):Int):=by omega
  have hkl:(keysN vis9).length=vis9.length:=by simp [keysN]
  refine ⟨_,I.seg 1 rfl,rfl,x_round1 hT rfl rfl rfl ?_⟩;intro a Z;clear hT;rw [hpe] at Z;refine xrl ?_;refine za Z ?_;clear Z a;intro a Z;refine wpList_nil ?_;refine x_begin 1 I rfl rfl ?_;clear I w;intro w I;(try simp only [nrm,Value.cells] at I);refine x_block ?_;refine xrl ?_;refine go 2 Z I ?_;clear Z a;intro a Z;refine l_step rfl (f_lit (vs:= [(0,_)]) (l:= [_]) Z I rfl rfl rfl rfl Tryz.underlying47 zs_2 rfl rfl rfl ?_);clear I Z a w;intro a b2 w Z I;refine l_step rfl (o_appendOR (R:=NaR) (el:=p9.1.toNat) 5 0 Z I rfl rfl rfl rfl rfl Tryz.underlying47 zsb_2 rfl rfl rfl hO9 rfl rfl (rfl) (by simp [Value.oneCell']) (by omega) (by omega) ?_);clear I Z a w;intro v3 s4 w hO5 I a Z;obtain ⟨A6,c7,rfl,_⟩:=hO5.slice;replace I:=I.erase 0;(try simp only [nrm,Value.cells] at I);refine l_step rfl (f_store (l:= [_]) (ss':=_::_::_::_::_) 3 Z I rfl rfl rfl rfl rfl sz_47 (by simp [Value.cells,Value.oneCell',pgCells,rcCells,zPg,errV,zUe,zPlan]) rfl rfl rfl ?_);clear I w;intro w I;refine wpList_nil ?_;refine x_blk_normal ?_;refine x_endN 1 I rfl ?_;clear I w;intro w I;(try simp only [nrm,Value.cells] at I);exact ⟨D9,_,rfl,Le.refl _,⟨_,_,rfl,by rw [keysN_cons];exact hO5⟩,I⟩
 rintro _ w ⟨_,rfl,vis,D9,ms9,hD9,hall,⟨vo,so,rfl,hO9⟩,I⟩;simp only [List.cons_append,List.nil_append] at I;subst hR0;obtain ⟨Ao,co,rfl,_⟩:=hO9.slice;refine x_done (s:= .ready) 1 I rfl (fun h=>by cases h) ?_;clear I w;intro w I;(try simp only [nrm,Value.cells] at I);refine x_blk_normal ?_;refine x_then_normal ?_;refine x_seq ?_;refine xrl ?_;refine go 2 Z I ?_;clear Z a;intro a Z;refine wpList_nil ?_;refine x_then_normal ?_;refine x_ret ?_;refine x_mark 1 I rfl ?_;clear I w;intro w I;replace I:=I.erase 1;(try simp only [nrm,Value.cells] at I);refine x_fin ?_;refine rt1 Z ?_;replace I:=I.erase 1;replace I:=I.bring 1;exact ⟨vis,D9,_,hD9,hall,hO9,I⟩
theorem Collect64_spec {w0 w:World} {D:Sto} {ss:List Seg} {bw clk:Nat} {es:Array MapEntry} {m:List (Int×Value)} (I:Inv w0 D ([(bw, .map es clk)]::ss) w) {vq:Value} (hq:KeySeqOk D vq bw es clk m) (hlm:m.length<=100000) (h0: ∀p∈m,0<=p.1) :
  Calls Tryz.prog 153 #[vq] w (Ret fun r w'=> ∃vis D' so,Le D D'/\AllOf m vis/\OR 1 NaR D' 2 r (keysN vis) so/\Inv w0 D' (so:: [(bw, .map es clk)]::ss) w'):=by
 refine enter (N:=5) Tryz.func153 rfl rfl rfl ?_;intro a Z;refine go 5 Z I ?_;clear Z a;intro a Z;refine l_step rfl (o_call Z rfl rfl rfl rfl ent_184 (AppendSeq64_spec I hq hlm h0) ?_);clear I Z a;rintro r w ⟨vis,D1,so3,hD2,hall,hO4,I⟩ a Z;obtain ⟨A5,c6,rfl,_⟩:=hO4.slice;refine go 3 Z I ?_;clear Z a;intro a Z;refine rt1 Z ?_;exact ⟨vis,D1,_,hD2,hall,hO4,I⟩
theorem AllOf.len_eq {m vis:List (Int×Value)} (h:AllOf m vis) (hn:(m.map (·.1)).Nodup):vis.length=m.length:=by have h1:=AllOf.len h;have h2:=Vis.len (es:= #[]) (seen:= #[]) (m:=vis) (vis:=m) ⟨h.all,hn,fun e he=>by simp at he⟩;omega
theorem Sorted64_spec {w0 w:World} {D:Sto} {ss:List Seg} {bw clk:Nat} {es:Array MapEntry} {m:List (Int×Value)} (I:Inv w0 D ([(bw, .map es clk)]::ss) w) {vq:Value} (hq:KeySeqOk D vq bw es clk m) (hlm:m.length<=100000) (h0: ∀p∈m,0<=p.1) :
  Calls Tryz.prog 100 #[vq] w (Ret fun r w'=> ∃vis ys D',Le D D'/\AllOf m vis/\ys.length=(keysN vis).length/\(∀y∈ys,y∈keysN vis)/\DR 1 NaR D' r ys/\Inv w0 D' ([(bw, .map es clk)]::ss) w'):=by
 refine enter (N:=9) Tryz.func100 rfl rfl rfl ?_;intro a Z;refine go 5 Z I ?_;clear Z a;intro a Z;refine l_step rfl (o_call Z rfl rfl rfl rfl ent_153 (Collect64_spec I hq hlm h0) ?_);clear I Z a;rintro r w ⟨vis,D1,so3,hD2,hall,hO4,I⟩ a Z;obtain ⟨A5,c6,rfl,_⟩:=hO4.slice;refine go 4 Z I ?_;clear Z a;intro a Z;refine l_step rfl (o_call Z rfl rfl rfl rfl ent_154 (Sort64_spec I hO4 (by have:=hall.len;simp only [keysN,List.length_map,List.length_reverse];omega)) ?_);clear I Z a;rintro r w ⟨ys7,s7,hyl7,hym7,hO7,I⟩ a Z;refine go 6 Z I ?_;clear Z a;intro a Z;refine rt1 Z ?_;obtain ⟨D9,hD9,hI9,hDR9⟩:=Inv.shutOR 0 I rfl NaR.keeps hO7;exact ⟨vis,ys7,D9,hD2.trans hD9,hall,hyl7,hym7,hDR9,hI9⟩
theorem open_mem {l:List (Int×Opn)} {vis:List (Int×Value)} (h:AllOf (l.map ptrOf) vis) {y:Nat} (hy:y∈keysN vis): ∃p∈l,y=p.1.toNat:=by unfold keysN at hy;obtain ⟨q,hq,rfl⟩:=List.mem_map.1 hy;obtain ⟨p,hp,rfl⟩:=List.mem_map.1 (h.sub q (List.mem_reverse.1 hq));exact ⟨p,hp,rfl⟩
theorem Open_spec {w0 w:World} {D:Sto} {ss:List Seg} {s:Seg} {vd vp:Value} {d:Db} (I:Inv w0 D (s::ss) w) (hd:DbS D vd vp d s) (hdb:DbOk d) :
  Calls Tryz.prog 48 #[vd] w (Ret fun r w'=> ∃ys D',Le D D'/\DR 1 NaR D' r ys/\ys.length=d.l.length/\(∀y∈ys,∃p∈d.l,y=p.1.toNat)/\DbS D' vd vp d s/\Inv w0 D' (s::ss) w'):=by
 have hd9:=hd;have hdb9:=hdb;obtain ⟨bd,bl,esl,clkl,os,rfl,rfl,hml,hos⟩:=hd;obtain ⟨ge0,ge1,gb0,gb1,gs0,gs1,hids,hdlen⟩:=hdb;replace I:=I.open_db;have h0: ∀p∈d.l.map ptrOf,0<=p.1:=fun p hp=>by obtain ⟨q,hq,rfl⟩:=List.mem_map.1 hp;have:=(hids q hq).1;show 0<=q.1;omega
 have hlm:(d.l.map ptrOf).length<=100000:=by rw [List.length_map];omega
 refine enter (N:=9) Tryz.func48 rfl rfl rfl ?_;intro a Z;refine go 5 Z I ?_;clear Z a;intro a Z;refine zs Z (p_nilCheck rfl) ?_;clear Z a;intro a Z;refine go 2 Z I ?_;clear Z a;intro a Z;refine l_step rfl (o_call Z rfl rfl rfl rfl ent_101 (MKeys64_spec I hml) ?_);clear I Z a;rintro r w ⟨D1,hD1,hq,I⟩ a Z;replace I:=I.bring 1;refine l_step rfl (o_call Z rfl rfl rfl rfl ent_100 (Sorted64_spec I hq hlm h0) ?_);clear I Z a;rintro r w ⟨vis,ys2,D2,hD2,hall,hyl,hym,hL2,I⟩ a Z;obtain ⟨A3,c4,rfl,_⟩:=hL2.slice;refine go 3 Z I ?_;clear Z a;intro a Z;refine rt1 Z ?_;replace I:=I.bring 2;replace I:=I.bring 1;replace I:=I.bring 2;exact ⟨ys2,D2,(hD1.trans hD2),hL2,by rw [hyl,keysN,List.length_map,List.length_reverse,hall.len_eq hml.nd,List.length_map],fun y hy=>open_mem hall (hym y hy),hd9.mono (hD1.trans hD2),I.shut_db⟩
end Go.Proofs.YtkknmpkcfpdllaaGreatDoor.B
