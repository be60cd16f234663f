/- What functions of the program compute, each function once: steps over the model, and the plain law of it. -/
import Derived.Test.YtkknmpkcfpdllaaGreatDoorTWirePure
import Derived.Test.YtkknmpkcfpdllaaGreatDoorTTx17
import Derived.Test.YtkknmpkcfpdllaaGreatDoorTFacts
import Derived.Test.YtkknmpkcfpdllaaGreatDoorSCut
import Derived.Test.YtkknmpkcfpdllaaGreatDoorTValues
import Derived.Test.YtkknmpkcfpdllaaGreatDoorTScan
import Derived.Test.YtkknmpkcfpdllaaGreatDoorTWaitRel
namespace Go.Proofs.YtkknmpkcfpdllaaGreatDoor.B
open Go Go.ChangeMaps
set_option linter.unusedVariables false
set_option linter.unusedSimpArgs false
section
variable {P:Program} {ops:Array Oper} {Q:Exit->Act->World->Prop} {a:Act} {w0 w w':World} {D:Sto} {ss:List Seg} {o:Oper} {N:Nat} {env:Env} {K:Act->World->Prop}
theorem f_rangeM {t k e d:Nat} {x:Operand} {b:Nat} {es:Array MapEntry} {clock:Nat} (Z:EnvOk N env a) (I:Inv w0 D ss w) (hd:o.dst=some d) (hN:Nat.blt d N=true) (ho:o.op= .range t x)
    (hx:ev env x=some (.map (some b))) (ht:P.underlying t=some (.map k e)) (hb:w.heap[b]? =some (.map es clock))
    (kk: ∀a' r w',EnvOk N ((d, .pointer (some ⟨r,0,none⟩))::env) a'->Inv w0 D ([(r, .mapIter (some b) clock #[] clock)]::ss) w'->K a' w'):o.wp P a w K Q:=by
  have hrun:(execOp a.eval o).run P w= .ok (.value (.pointer (some ⟨w.heap.size,0,none⟩))) {w with heap:=w.heap.push (.mapIter (some b) clock #[] clock)}:=by simp [execOp,ho,Z.eval hx,Instr.range,run_underlying ht,run_getObj hb rfl,newObj,Sem.run]
  exact o_val hrun (by rw [hd];exact kk _ w.heap.size _ (Z.put hN _) (I.new _))
theorem so_nextM {d:Nat} {x:Operand} {b r:Nat} {es:Array MapEntry} {clock:Nat} {m vis:List (ByteArray×Value)} {seen:Array Nat} (q:Nat) (Z:EnvOk N env a) (I:Inv w0 D ss w) (hd:o.dst=some d) (hN:Nat.blt d N=true) (ho:o.op= .next x false)
    (hx:ev env x=some (.pointer (some ⟨r,0,none⟩))) (hb:w.heap[b]? =some (.map es clock)) (hq:ss[q]? =some [(r, .mapIter (some b) clock seen clock)]) (hm:StrMap es clock m) (hv:VisS es seen m vis)
    (over:(∀p∈m,p∈vis)-> ∀a',EnvOk N ((d, .tuple #[.bool false])::env) a'->K a' w)
    (step: ∀p,p∈m->p ∉ vis-> ∀seen' w',VisS es seen' m (p::vis)->LastS es seen' p->Inv w0 D (ss.set q [(r, .mapIter (some b) clock seen' clock)]) w'->
      ∀a',EnvOk N ((d, .tuple #[.bool true, .string p.1,p.2])::env) a'->K a' w'):o.wp P a w K Q:=by
  have hr:=I.seg q hq;have hent: ∀e∈es.toList,∃p,p∈m/\(e.key,e.val)=entS p:=by intro e he;have h1:(e.key,e.val)∈es.toList.map (fun e=>(e.key,e.val)):=List.mem_map_of_mem (f:=fun e=>(e.key,e.val)) he;rw [hm.eq] at h1;obtain ⟨p,hp,hpe⟩:=List.mem_map.1 h1;exact ⟨p,hp,hpe.symm⟩
  have hmem: ∀p∈m,∃e∈es.toList,(e.key,e.val)=entS p:=by intro p hp;have h1:entS p∈m.map entS:=List.mem_map_of_mem hp;rw [<-hm.eq] at h1;obtain ⟨e,he,hee⟩:=List.mem_map.1 h1;exact ⟨e,he,hee⟩
  have einj: ∀p p':ByteArray×Value,entS p=entS p'->p=p':=by intro p p' h;simp only [entS,Prod.mk.injEq,Value.string.injEq] at h;exact Prod.ext h.1 h.2
  rcases run_next_at (P:=P) w o.type r b clock clock seen es clock hr hb hm.old (Nat.le_refl _) with ⟨h0,hrun⟩|⟨e,he,w1,hw1,hrun⟩
  ·have hrun':(execOp a.eval o).run P w= .ok (.value (.tuple #[.bool false])) w:=by simp [execOp,ho,Z.eval hx,hrun]
   have hall: ∀p∈m,p∈vis:=fun p hp=>by
     obtain ⟨e,he,hee⟩:=hmem p hp;refine (hv.iff e he p hee).1 ?_;have hl:leftOf es seen= #[]:=Array.eq_empty_of_size_eq_zero h0;unfold leftOf at hl;rw [Array.filter_eq_empty_iff] at hl;have:=hl e (by simpa using he);simpa using this
   exact o_val hrun' (by rw [hd];exact over hall _ (Z.put hN _))
  ·have hrun':(execOp a.eval o).run P w= .ok (.value (.tuple #[.bool true,e.key,e.val])) (setBlock w1 r (.mapIter (some b) clock (seen.push e.born) clock)):=by simp [execOp,ho,Z.eval hx,hrun]
   have he':e∈es.toList/\seen.contains e.born=false:=by unfold leftOf at he;simp only [Array.toList_filter,List.mem_filter,Bool.not_eq_true'] at he;exact he
   obtain ⟨p,hp,hpe⟩:=hent e he'.1;have hnv:p ∉ vis:=fun h=>by
     have:=(hv.iff e he'.1 p hpe).2 h;rw [he'.2] at this;cases this
   have hI1:Inv w0 D ss w1:=by
     rcases hw1 with rfl|rfl
     ·exact I
     ·exact I.drawn _
   have hkv:e.key= .string p.1/\e.val=p.2:=by simpa [entS] using hpe
   refine o_val hrun' ?_;rw [hd,hkv.1,hkv.2];refine step p hp hnv (seen.push e.born) _ ⟨?_, ?_, ?_⟩ ⟨e,he'.1,by simp,hpe⟩ (hI1.turn_at q hq) _ (Z.put hN _)
   ·intro x hx';rcases List.mem_cons.1 hx' with rfl|hx'
    ·exact hp
    ·exact hv.sub x hx'
   ·simp only [List.map_cons,List.nodup_cons];refine ⟨fun hmem'=> ?_,hv.nd⟩;obtain ⟨y,hy,hye⟩:=List.mem_map.1 hmem';have h1:=getS_of_mem hm.nd (hv.sub y hy);have h2:=getS_of_mem hm.nd hp;rw [hye] at h1;rw [h1] at h2;injection h2 with h2
    have hyp:y=p:=Prod.ext hye h2;exact hnv (hyp▸hy)
   ·intro e2 he2 p2 hpe2;rw [Array.contains_push];simp only [Bool.or_eq_true,beq_iff_eq,List.mem_cons];constructor
    ·rintro (h|h)
     ·right;exact (hv.iff e2 he2 p2 hpe2).1 h
     ·left;have hee:e2=e:=by
        have:=find_born e2 es.toList hm.born he2;have h3:=find_born e es.toList hm.born he'.1;rw [h] at this;rw [this] at h3;exact Option.some.inj h3
      subst hee;exact einj _ _ (hpe2.symm.trans hpe)
    ·rintro (h|h)
     ·right;subst h;have h1: ∀(l:List MapEntry) (m:List (ByteArray×Value)),l.map (fun e=>(e.key,e.val))=m.map entS->(m.map (·.1)).Nodup->e∈l->e2∈l->e2=e:=by
        intro l;induction l with
        |nil=>intro m _ _ h;cases h
        |cons x l ih=>
          intro m h hn h1 h2;cases m with
          |nil=>simp at h
          |cons y m=>
            simp only [List.map_cons,List.cons.injEq,List.nodup_cons] at h hn;have no: ∀z∈l,(z.key,z.val)=entS p2->(x.key,x.val)=entS p2->False:=by intro z hz h3 h4;have h5:(z.key,z.val)∈l.map (fun e=>(e.key,e.val)):=List.mem_map_of_mem (f:=fun e=>(e.key,e.val)) hz;rw [h.2,h3] at h5;obtain ⟨y',hy',hy2⟩:=List.mem_map.1 h5;rw [einj _ _ hy2] at hy';rw [h.1] at h4;rw [einj _ _ h4] at hn;exact hn.1 (List.mem_map_of_mem (f:=(·.1)) hy')
            rcases List.mem_cons.1 h1 with g1|g1<;>rcases List.mem_cons.1 h2 with g2|g2
            ·rw [g1,g2]
            ·exact (no _ g2 hpe2 (by rw [<-g1];exact hpe)).elim
            ·exact (no _ g1 hpe (by rw [<-g2];exact hpe2)).elim
            ·exact ih m h.2 hn.2 g1 g2
      exact congrArg _ (h1 es.toList m hm.eq hm.nd he'.1 he2)
     ·left;exact (hv.iff e2 he2 p2 hpe2).2 h
end
open Go Go.Proofs
set_option maxRecDepth 20000
set_option maxHeartbeats 8000000
theorem insSortE0_spec {w0 w:World} {D:Sto} {ss:List Seg} (I:Inv w0 D ss w) {A:Option Addr} {c:Nat} :
  Calls Tryz.prog 220 #[.slice A 0 c, .int .i64 0, .int .i64 0, .func (.func 166) #[] #[]] w (Ret fun r w'=>Inv w0 D ss w'):=by
 refine enter (N:=53) Tryz.func220 rfl rfl rfl ?_;intro a Z;refine go 2 Z I ?_;clear Z a;intro a Z;refine zs Z (p_arith (z:=1) rfl rfl (rfl)) ?_;clear Z a;intro a Z;refine go 3 Z I ?_;clear Z a;intro a Z;refine c_loop (X:=Unit) (fun y=> [(0,_),(1,_),(2,_),(3,_),(8,_)]) (fun y w=>Inv w0 D ss w) (fun y=>0) () (Z.pick [0,1,2,3,8]) I ?_;clear Z I a w;rintro _ a w Z I;(try dsimp only at Z);(try dsimp only at I);refine go 4 Z I ?_;clear Z a;intro a Z;refine zs Z (p_cmp rfl rfl (lss_n (by omega))) ?_;clear Z a;intro a Z;refine gc 6 Z ?_;refine ret0 rfl Z ?_;exact I
theorem pdqE0_spec {w0 w:World} {D:Sto} {ss:List Seg} (I:Inv w0 D ss w) {A:Option Addr} {c:Nat} (lim:Int) :
  Calls Tryz.prog 190 #[.slice A 0 c, .int .i64 0, .int .i64 0, .int .i64 lim, .func (.func 166) #[] #[]] w (Ret fun r w'=>Inv w0 D ss w'):=by
 refine enter (N:=148) Tryz.func190 rfl rfl rfl ?_;intro a Z;refine go 7 Z I ?_;clear Z a;intro a Z;refine c_loop (X:=Unit) (fun y=> [(0,_),(1,_),(2,_),(3,_),(4,_),(10,_),(11,_)]) (fun y w=>Inv w0 D ss w) (fun y=>0) () (Z.pick [0,1,2,3,4,10,11]) I ?_;clear Z I a w;rintro _ a w Z I;(try dsimp only at Z);(try dsimp only at I);refine go 4 Z I ?_;clear Z a;intro a Z;refine zs Z (p_arith (z:=0) rfl rfl (rfl)) ?_;clear Z a;intro a Z;refine go 5 Z I ?_;clear Z a;intro a Z;refine zs Z (p_cmp rfl rfl (leq_y (by omega))) ?_;clear Z a;intro a Z;refine go 7 Z I ?_;clear Z a;intro a Z;refine l_step rfl (o_call Z rfl rfl rfl rfl ent_220 (insSortE0_spec I) ?_);clear I Z a;rintro r w I a Z;refine gc 6 Z ?_;refine ret0r rfl Z ?_;exact I
theorem SortE0_spec {w0 w:World} {D:Sto} {ss:List Seg} (I:Inv w0 D ss w) {A:Option Addr} {c:Nat} :
  Calls Tryz.prog 165 #[.slice A 0 c, .func (.func 166) #[] #[]] w (Ret fun r w'=>Inv w0 D ss w'):=by
 refine enter (N:=14) Tryz.func165 rfl rfl rfl ?_;intro a Z;refine go 2 Z I ?_;clear Z a;intro a Z;refine zs Z (p_len rfl rfl Tryz.underlying57) ?_;clear Z a;intro a Z;refine go 6 Z I ?_;clear Z a;intro a Z;refine zs Z (p_int (z:=0) Tryz.underlying3 Tryz.underlying87 rfl (rfl)) ?_;clear Z a;intro a Z;refine l_step rfl (o_call Z rfl rfl rfl rfl ent_182 (Len_spec I 0 (by omega)) ?_);clear I Z a;rintro r w ⟨z9,rfl,I⟩ a Z;refine zm Z ?_;clear Z a;intro a Z;refine l_step rfl (o_call Z rfl rfl rfl rfl ent_190 (pdqE0_spec I _) ?_);clear I Z a;rintro r w I a Z;refine wpList_nil ?_;refine ret0 rfl Z ?_;exact I
theorem ghosts_spec {w0 w:World} {D:Sto} {ss:List Seg} {s:Seg} {vd vp v2 v3:Value} {d:Db} (I:Inv w0 D (s::ss) w) (hd:DbS D vd vp d s) (hdb:DbOk d) (tx:Int) (hgh: ∀p∈d.l,p.1≠tx-> ∀e∈p.2.old,e.had=false) :
  Calls Tryz.prog 112 #[vd, .int .i64 tx,v2,v3] w (Ret fun r w'=>r= .slice none 0 0/\Inv w0 D (s::ss) w'):=by
 obtain ⟨bd,bl,esl,clkl,os,rfl,rfl,hml,hos⟩:=hd;obtain ⟨ge0,ge1,gb0,gb1,gs0,gs1,hids,hdlen⟩:=hdb;replace I:=I.open_db;refine enter (N:=70) Tryz.func112 rfl rfl rfl ?_;intro a Z;refine go 9 Z I ?_;clear Z a;intro a Z;refine zs Z (p_nilCheck rfl) ?_;clear Z a;intro a Z;refine go 2 Z I ?_;clear Z a;intro a Z;refine l_step rfl (f_range 1 Z I rfl rfl rfl rfl Tryz.underlying173 rfl ?_);clear I Z a w;intro a r1 w Z I;refine gc 2 Z ?_;refine c_loop (X:=Array Nat×List (Int×Opn)) (fun y=> [(1,_),(2,_),(3,_),(9,_),(18,_)]) (fun y w=>Vis esl y.1 (d.l.map ptrOf) (y.2.map ptrOf)/\(∀p∈y.2,p∈d.l)/\Inv w0 D ([(r1, .mapIter (some bl) clkl y.1 clkl)]:: [(bd, .cells #[.int .i64 d.epoch,vp, .int .i64 d.begun, .map (some bl), .int .i64 d.seq] 175 (0,0))]:: [(bl, .map esl clkl)]::os.flatten::ss) w) (fun y=>d.l.length - y.2.length) (#[], []) (Z.pick [1,2,3,9,18]) ⟨Vis.start _ _,by simp,I⟩ ?_;clear Z I a w;rintro ⟨seen,vo⟩ a w Z ⟨hv,hvo,I⟩;(try dsimp only at Z);(try dsimp only at hv);(try dsimp only at hvo);(try dsimp only at I);refine wsr ?_;refine l_step rfl (o_next 2 0 Z I rfl rfl rfl rfl rfl rfl hml hv ?_ ?_)
 ·clear Z a;intro _ a Z;refine go 11 Z I ?_;clear Z a;intro a Z;refine l_step rfl (o_call Z rfl rfl rfl rfl ent_165 (SortE0_spec I) ?_);clear I Z a;rintro r w I a Z;refine go 6 Z I ?_;clear Z a;intro a Z;refine rt1 Z ?_;replace I:=I.erase 0;exact ⟨rfl,I.shut_db⟩
 clear Z I a w;intro pp hpm hpn seen2 w hv2 hlast I a Z;obtain ⟨po,hpo,rfl⟩:=List.mem_map.1 hpm;obtain ⟨bm,eso,clko,mo,hm1,hm2,hsm,hor⟩:=OpsS.read hos hpo;have hfst:(ptrOf po).1=po.1:=rfl;refine go 8 Z I ?_;clear Z a;intro a Z;refine zl Z (r_entry rfl (I.seg 2 rfl) (I.seg 0 rfl) hml hlast) ?_;clear Z a;intro a Z;refine go 9 Z I ?_;clear Z a;intro a Z;refine cmx Z ?_ ?_
 ·intro hntx;replace hntx:=eql_t hntx;clear Z a;intro a Z;refine gc 6 Z ?_;exact ⟨(seen2,po::vo),Z.pick [1,2,3,9,18],⟨by simpa using hv2,fun p hp=>by rcases List.mem_cons.1 hp with rfl|hp;exact hpo;exact hvo p hp,I⟩,by have:=hv2.len;simp only [List.length_cons,List.length_map] at this;show d.l.length - (vo.length+1)<d.l.length - vo.length;omega⟩
 intro hntx;replace hntx:=eql_f hntx;clear Z a;intro a Z;refine go 6 Z I ?_;clear Z a;intro a Z;refine zs Z (p_nilCheck rfl) ?_;clear Z a;intro a Z;refine zs Z (p_fieldAddr (m:=1) rfl fo_179_1 rfl) ?_;clear Z a;intro a Z;refine zl Z (r_load rfl scal_177 (I.segs 3 rfl _ hm1) rfl) ?_;clear Z a;intro a Z;refine l_step rfl (f_rangeM Z I rfl rfl rfl rfl Tryz.underlying177 (I.segs 3 rfl _ hm2) ?_);clear I Z a w;intro a r2 w Z I;refine gc 2 Z ?_;refine c_loop (X:=Array Nat×List (ByteArray×Value)) (fun y=> [(1,_),(2,_),(3,_),(9,_),(18,_),(31,_)]) (fun y w=>VisS eso y.1 mo y.2/\Inv w0 D ([(r2, .mapIter (some bm) clko y.1 clko)]:: [(r1, .mapIter (some bl) clkl seen2 clkl)]:: [(bd, .cells #[.int .i64 d.epoch,vp, .int .i64 d.begun, .map (some bl), .int .i64 d.seq] 175 (0,0))]:: [(bl, .map esl clkl)]::os.flatten::ss) w) (fun y=>mo.length - y.2.length) (#[], []) (Z.pick [1,2,3,9,18,31]) ⟨VisS.start _ _,I⟩ ?_;clear Z I a w;rintro ⟨seenS,vis⟩ a w Z ⟨hvs,I⟩;(try dsimp only at Z);(try dsimp only at hvs);(try dsimp only at I);refine wsr ?_;refine l_step rfl (so_nextM 0 Z I rfl rfl rfl rfl (I.segs 4 rfl _ hm2) rfl hsm hvs ?_ ?_)
 ·clear Z a;intro _ a Z;refine go 10 Z I ?_;clear Z a;intro a Z;replace I:=I.erase 0;exact ⟨(seen2,po::vo),Z.pick [1,2,3,9,18],⟨by simpa using hv2,fun p hp=>by rcases List.mem_cons.1 hp with rfl|hp;exact hpo;exact hvo p hp,I⟩,by have:=hv2.len;simp only [List.length_cons,List.length_map] at this;show d.l.length - (vo.length+1)<d.l.length - vo.length;omega⟩
 clear Z I a w;rintro ⟨pk,pv⟩ hpm hpn seen3 w hvs3 hlastS I a Z;obtain ⟨⟨etx,en,ek,eh,ev9⟩,heo9,hpk9,vs9,hpv9,hue9⟩:=hor.of_mem hpm;obtain rfl:eh=false:=hgh po hpo (by have:=hntx;omega) _ heo9;obtain ⟨ku9,vu9,rfl,hku9,hvu9⟩:=hue9;obtain ⟨Ak9,ck9,rfl,_⟩:=hku9.slice;obtain ⟨Av9,cv9,rfl,_⟩:=hvu9.slice;replace hpv9:pv=_:=hpv9;subst hpv9;refine go 8 Z I ?_;clear Z a;intro a Z;refine zl Z (sr_entry rfl (I.segs 4 rfl _ hm2) (I.seg 0 rfl) hsm hlastS) ?_;clear Z a;intro a Z;refine zx Z ?_;clear Z a;intro a Z;refine l_step rfl (f_alloc (cs:= #[.int .i64 0, .int .i64 0, .slice none 0 0, .bool false, .slice none 0 0]) Z I rfl rfl rfl zer_35 rfl ?_);clear I Z a w;intro a b3 w Z I;refine l_step rfl (f_store (l:= [_,_,_,_,_]) (ss':=_::_) 0 Z I rfl rfl rfl rfl rfl sz_35 (by simp [Value.cells,Value.oneCell',pgCells,rcCells,zPg,errV,zUe,zPlan]) rfl rfl rfl ?_);clear I w;intro w I;refine go 28 Z I ?_;clear Z a;intro a Z;replace I:=I.erase 0;exact ⟨(seen3,_::vis),Z.pick [1,2,3,9,18,31],⟨hvs3,I⟩,by have:=hvs3.len;simp only [List.length_cons] at this;show mo.length - (vis.length+1)<mo.length - vis.length;omega⟩
def rangeU (frm to k:Bs):Bool:= !ltB k frm && (decide (to= []) ||ltB k to)
def lowK (frm:Bs):Bs:=107::frm
def highK (to:Bs):Bs:=if to= [] then [108] else 107::to
def unK (x:Bs×Bs):Bs×Bs:=(x.1.drop 1,x.2)
def freeT (d:Db) (tx:Int) (key:Bs):Bool:=d.l.all fun p=>decide (p.1=tx) ||(lookO p.2.old key).isNone
def scanU (d:Db) (tx:Int) (U:Ens) (frm to:Bs):Ens:=(U.filter fun e=>rangeU frm to e.1).filter fun e=>freeT d tx e.1
def outE (d:Db) (tx:Int) (l:Ens):Ens:=(l.map unK).filter fun e=>freeT d tx e.1
theorem freeT_yes {d:Db} {tx:Int} {key:Bs} (h:d.other tx key none):freeT d tx key=true:=by
 unfold freeT;rw [List.all_eq_true];intro p hp;by_cases e:p.1=tx
 ·simp [e]
 simp [h p hp e]
theorem freeT_no {d:Db} {tx:Int} {key:Bs} {e:Ent} (h:d.other tx key (some e)):freeT d tx key=false:=by obtain ⟨p,hp,hne,hl⟩:=h;unfold freeT;rw [List.all_eq_false];exact ⟨p,hp,by simp [hne,hl]⟩
theorem outE_nil (d:Db) (tx:Int):outE d tx []= []:=rfl
theorem outE_snoc {d:Db} {tx:Int} {l:Ens} {i:Nat} {x:Bs×Bs} (h:l[i]? =some x):outE d tx (l.take (i+1))=if freeT d tx (x.1.drop 1)=true then outE d tx (l.take i)++ [unK x] else outE d tx (l.take i):=by
 unfold outE;rw [List.take_add_one,h];simp only [Option.toList_some,List.map_append,List.map_cons,List.map_nil,List.filter_append];by_cases hb:freeT d tx (x.1.drop 1)=true
 ·rw [if_pos hb];congr 1;rw [List.filter_cons_of_pos (p:=fun e:Bs×Bs=>freeT d tx e.1) (a:=unK x) hb];rfl
 rw [if_neg hb];rw [List.filter_cons_of_neg (p:=fun e:Bs×Bs=>freeT d tx e.1) (a:=unK x) hb];simp
theorem high_user (to k:Bs):toldTo (highK to) (107::k)=(decide (to= []) ||ltB k to):=by
 unfold toldTo highK;by_cases h:to= []
 ·subst h;simp [ltB]
 simp [h,ltB_same]
theorem high_und (to:Bs) (e:Ent):toldTo (highK to) (ueOf e).1=false:=by show toldTo (highK to) (keyL e.tx e.n)=false;unfold toldTo highK keyL;by_cases h:to= []<;>simp [h,ltB]
def inK (frm to:Bs) (x:Bs×Bs):Bool:= !ltB x.1 (lowK frm) && toldTo (highK to) x.1
theorem in_kvOf (frm to:Bs) (U:Ens) (es:List Ent):((kvOf U es).filter (inK frm to)).map unK=U.filter fun e=>rangeU frm to e.1:=by
 unfold kvOf;rw [List.filter_append,List.map_append];have h2:(es.map ueOf).filter (inK frm to)= []:=by rw [List.filter_eq_nil_iff];intro x hx;obtain ⟨e,_,rfl⟩:=List.mem_map.1 hx;simp [inK,high_und]
 rw [h2,List.map_nil,List.append_nil,List.filter_map,List.map_map];have h3:(inK frm to)∘usrOf=fun e=>rangeU frm to e.1:=by funext e;show (!ltB (107::e.1) (107::frm) && toldTo (highK to) (107::e.1))=_;rw [ltB_same,high_user];rfl
 have h4:unK∘usrOf=id:=by funext e;rfl
 rw [h3,h4,List.map_id]
theorem told_down {to a b:Bs} (h:toldTo to a=false) (hab:ltB a b=true):toldTo to b=false:=by
 unfold toldTo at h ⊢;simp only [Bool.or_eq_false_iff] at h ⊢;refine ⟨h.1, ?_⟩;cases hq:ltB b to with
 |false=>rfl
 |true=>rw [ltB_trans hab hq] at h;simp at h
theorem scan_pref {kv:Ens} {frm to:Bs} (hso:Sorted kv) {i:Nat} (h: ∀j,j<i-> ∃x,kv[fromK (lowK frm) false kv+j]? =some x/\toldTo (highK to) x.1=true) :
  kv.filter (inK frm to)=((kv.drop (fromK (lowK frm) false kv)).take i)++(((kv.drop (fromK (lowK frm) false kv)).drop i).filter (inK frm to)):=by
 obtain ⟨s,hs⟩: ∃s,fromK (lowK frm) false kv=s:=⟨_,rfl⟩;rw [hs] at h ⊢;rw [fromK_false] at hs;have hge: ∀j x,kv[s+j]? =some x->ltB x.1 (lowK frm)=false:=fun j x hx=>by
  have h1:=(List.getElem?_eq_some_iff.1 hx).1;have hx0:kv[(findP kv (lowK frm)).1]? =some kv[(findP kv (lowK frm)).1]:=List.getElem?_eq_getElem (by omega);have h0:=findP_ge kv hx0;rcases Nat.eq_zero_or_pos j with q|q
  ·subst q;have:kv[s]? =some x:=by simpa using hx
   rw [<-hs,hx0] at this;injection this with this
   rw [<-this];exact h0
  have hlt:ltB kv[(findP kv (lowK frm)).1].1 x.1=true:=by obtain ⟨h2,h3⟩:=List.getElem?_eq_some_iff.1 hx;rw [<-h3];exact List.pairwise_iff_getElem.1 hso _ _ (by omega) h2 (by omega)
  cases hq:ltB x.1 (lowK frm) with
  |false=>rfl
  |true=>rw [ltB_trans hlt hq] at h0;cases h0
 have h1:kv.filter (inK frm to)=(kv.drop s).filter (inK frm to):=by
  conv=>lhs;rw [<-List.take_append_drop s kv,List.filter_append]
  have:(kv.take s).filter (inK frm to)= []:=by rw [List.filter_eq_nil_iff];intro x hx;have:=findP_all (k:=lowK frm) kv x (by rw [hs];exact hx);simp [inK,this]
  rw [this,List.nil_append]
 rw [h1]
 conv=>lhs;rw [<-List.take_append_drop i (kv.drop s),List.filter_append]
 congr 1;rw [List.filter_eq_self];intro e he;obtain ⟨j,hj,he⟩:=List.getElem_of_mem he;have hj':j<i:=by rw [List.length_take] at hj;omega
 obtain ⟨x,hx,ht⟩:=h j hj';have h3:((kv.drop s).take i)[j]? =some e:=by rw [<-he];exact List.getElem?_eq_getElem hj
 rw [List.getElem?_take_of_lt hj',List.getElem?_drop,hx] at h3;injection h3 with h3
 rw [<-h3];simp [inK,ht,hge j x hx]
theorem scan_stop {kv:Ens} {frm to:Bs} (hso:Sorted kv) {n:Nat} (h:Done kv (fromK (lowK frm) false kv) (toldTo (highK to)) n):kv.filter (inK frm to)=(kv.drop (fromK (lowK frm) false kv)).take n:=by
 rw [scan_pref hso h.1];have:((kv.drop (fromK (lowK frm) false kv)).drop n).filter (inK frm to)= []:=by
  rw [List.filter_eq_nil_iff];intro x hx;rw [List.drop_drop] at hx;obtain ⟨j,hj,he⟩:=List.getElem_of_mem hx;rw [List.length_drop] at hj;have h0:kv[fromK (lowK frm) false kv+n]? =some kv[fromK (lowK frm) false kv+n]:=List.getElem?_eq_getElem (by omega);have h1:toldTo (highK to) kv[fromK (lowK frm) false kv+n].1=false:=by have:=h.2 _ h0;simpa using this
  have h2:toldTo (highK to) x.1=false:=by
   rw [List.getElem_drop] at he;rcases Nat.eq_zero_or_pos j with q|q
   ·subst q;rw [<-he];simpa using h1
   refine told_down h1 ?_;rw [<-he];exact List.pairwise_iff_getElem.1 hso _ _ (by omega) (by omega) (by omega)
  simp [inK,h2]
 rw [this,List.append_nil]
theorem scanU_kv {d:Db} {tx:Int} {U:Ens} {es:List Ent} {frm to:Bs}:scanU d tx U frm to=outE d tx ((kvOf U es).filter (inK frm to)):=by unfold scanU outE;rw [in_kvOf]
theorem scan_done {d:Db} {tx:Int} {U:Ens} {es:List Ent} {frm to:Bs} (hso:Sorted (kvOf U es)) {n:Nat} (h:Done (kvOf U es) (fromK (lowK frm) false (kvOf U es)) (toldTo (highK to)) n) :
  scanU d tx U frm to=outE d tx (((kvOf U es).drop (fromK (lowK frm) false (kvOf U es))).take n):=by rw [scanU_kv (es:=es),scan_stop hso h]
theorem scan_left {d:Db} {tx:Int} {U:Ens} {es:List Ent} {frm to:Bs} (hso:Sorted (kvOf U es)) {i m:Nat} (h: ∀j,j<i-> ∃x,(kvOf U es)[fromK (lowK frm) false (kvOf U es)+j]? =some x/\toldTo (highK to) x.1=true)
  (hm:(outE d tx (((kvOf U es).drop (fromK (lowK frm) false (kvOf U es))).take i)).length=m):(scanU d tx U frm to).take m=outE d tx (((kvOf U es).drop (fromK (lowK frm) false (kvOf U es))).take i):=by
 rw [scanU_kv (es:=es),scan_pref hso h];have e: ∀a b:Ens,outE d tx (a++b)=outE d tx a++outE d tx b:=fun a b=>by unfold outE;rw [List.map_append,List.filter_append]
 rw [e,<-hm,List.take_left'];rfl
variable {B:Nat}
theorem Chs.kvlen {C:CP}: ∀(es:Ens) {lo hi fl nx ids kv},(∀id lo hi fl nx js kv,C id lo hi fl nx js kv->kv.length<=8*js.length)->Chs C es lo hi fl nx ids kv->kv.length<=8*ids.length
 | [],_,_,_,_,_,_,_,h=>h.elim
 | [e],_,_,_,_,_,_,hC,h=>hC _ _ _ _ _ _ _ h.2
 |e::e2::r,_,_,_,_,_,_,hC,h=>by
  obtain ⟨h0,h1,h2,md,i1,i2,k1,k2,rfl,rfl,h3,h4⟩:=h;have a:=hC _ _ _ _ _ _ _ h3;have b:=Chs.kvlen (e2::r) hC h4;rw [List.length_append,List.length_append];omega
theorem SubT.kvlen {V:Vw}: ∀(n:Nat) {id lo hi fl nx ids kv},SubT V n id lo hi fl nx ids kv->kv.length<=8*ids.length
 |0,_,_,_,_,_,_,_,h=>by obtain ⟨_,rfl,x,_,_,_,_,h8,_⟩:=h;simpa using h8
 |n+1,_,_,_,_,_,_,_,h=>by
  obtain ⟨js,rfl,x,_,_,_,_,_,h7⟩:=h;have:=Chs.kvlen _ (fun _ _ _ _ _ _ _ hs=>SubT.kvlen n hs) h7;simp only [List.length_cons];omega
theorem HoldsA.few {b:Bt} {K:Nat} {kv:Ens} (h:HoldsA B b K kv):kv.length<=2040:=by obtain ⟨n,av,fl,ids,h⟩:=h;have h1:=SubT.kvlen n h.s;have h2:=h.c;omega
theorem x_loop {ρ:Option Nat} {P:Program} {ds:List Deferred} {Q:QX} {N:Nat} {a:Act} {w:World} {X:Type} {c:Code} (en:X->Env) (W:X->World->Prop) (m:X->Nat) (x0:X) (Z:EnvOk N (en x0) a) (hW:W x0 w)
  (round: ∀x a w,EnvOk N (en x) a->W x w->wpX ρ P ds c (thenX (fun ds' a' w'=>ds'=ds/\ ∃x',EnvOk N (en x') a'/\W x' w'/\m x'<m x) Q) a w):wpX ρ P ds (.loop c) Q a w:=by
 intro b k cs hro hb hr;have key: ∀n x a w,m x=n->EnvOk N (en x) a->W x w->
   ∃e a' w',downX Q e a' w'/\ArrivesIn (Machine.fenced P (wideR ρ)) P (lone (b.atR (lifts ds a) (.code c:: .inLoop c::k)) cs w) b k cs e a' w':=by
  intro n;induction n using Nat.strongRecOn with
  |_ n ih=>
   intro x a w hn Z hW;obtain ⟨e,a₁,w₁,hq,harr⟩:=round x a w Z hW b (.inLoop c::k) cs hro hb hr;obtain ⟨ds1,a2,rfl,hq⟩:=hq;cases e with
   |normal=>
    obtain ⟨rfl,x',hE',hW',hlt⟩:=hq;obtain ⟨e₂,a₂,w₂,hq₂,harr₂⟩:=ih (m x') (hn▸hlt) x' a2 w₁ rfl hE' hW';exact ⟨e₂,a₂,w₂,hq₂, .of_steps (StepsIn.trans harr (.one (fenced_calm hb hr rfl) stepR_inLoop)) harr₂⟩
   |exit id=>exact ⟨_,_,w₁,⟨ds1,a2,rfl,hq⟩, .pass (x:= .inLoop c) rfl (fun _ _=> .inl (by simp)) harr⟩
   |goto l=>exact ⟨_,_,w₁,⟨ds1,a2,rfl,hq⟩, .pass (x:= .inLoop c) rfl (fun _ _=> .inl (by simp)) harr⟩
   |ret=>exact ⟨_,_,w₁,⟨ds1,a2,rfl,hq⟩, .pass (x:= .inLoop c) rfl (fun _ _=> .inl (by simp)) harr⟩
   |panic ch=>exact ⟨_,_,w₁,⟨ds1,a2,rfl,hq⟩, .pass (x:= .inLoop c) rfl (fun _ _=> .inl (by simp)) harr⟩
   |outgrown=>exact ⟨_,_,w₁,⟨ds1,a2,rfl,hq⟩, .pass (x:= .inLoop c) rfl (fun _ _=> .inl (by simp)) harr⟩
 obtain ⟨e,a',w',hq,harr⟩:=key _ x0 a w rfl Z hW;exact ⟨e,a',w',hq, .of_steps (.one (fenced_calm hb hr rfl) stepR_loop) harr⟩
theorem x_loop1 {ρ:Option Nat} {P:Program} {ds:List Deferred} {Q:QX} {N:Nat} {a:Act} {w:World} {env:Env} {c:Code} (Z:EnvOk N env a)
  (h: ∀a,EnvOk N env a->wpX ρ P ds c (thenX (fun ds' a' w'=>ds'=ds/\ ∃x':Unit,EnvOk N env a'/\w'=w/\0<0) Q) a w):wpX ρ P ds (.loop c) Q a w:=
 x_loop (X:=Unit) (fun _=>env) (fun _ w'=>w'=w) (fun _=>0) () Z rfl (fun _ a w' hE' hw=>by subst hw;exact h a hE')
theorem stepR_scope {P:Program} {b:Frame} {a:Act} {k:List Item} {cs:List Frame} {w:World} {c:Code} :
  step P (lone (b.atR a (.code (.scope c)::k)) cs w)= .next (lone (b.atR a (.code c:: .inScope c::k)) cs w):=
 step_lone_go (by simp [stepG,stepG.exec,Frame.atR])
theorem stepR_inScope {P:Program} {b:Frame} {a:Act} {k:List Item} {cs:List Frame} {w:World} {c:Code} :
  step P (lone (b.atR a (.inScope c::k)) cs w)= .next (lone (b.atR a k) cs w):=
 step_lone_go (by simp [stepG,stepG.exec,Frame.atR])
def noGotoX (Q:QX):QX:=fun ds e a w=>match e with
 | .goto _=>False
 |e=>Q ds e a w
theorem x_scope {ρ:Option Nat} {P:Program} {ds:List Deferred} {Q:QX} {a:Act} {w:World} {c:Code} (h:wpX ρ P ds c (noGotoX Q) a w):wpX ρ P ds (.scope c) Q a w:=by
 intro b k cs hro hb hr;obtain ⟨e,a₁,w₁,hq,harr⟩:=h b (.inScope c::k) cs hro hb hr;obtain ⟨ds1,a2,rfl,hq⟩:=hq;cases e with
 |normal=>exact ⟨_,_,w₁,⟨ds1,a2,rfl,hq⟩,StepsIn.trans (.one (fenced_calm hb hr rfl) stepR_scope) (StepsIn.trans harr (.one (fenced_calm hb hr rfl) stepR_inScope))⟩
 |goto l=>exact hq.elim
 |exit id=>exact ⟨_,_,w₁,⟨ds1,a2,rfl,hq⟩,ArrivesIn.of_steps (e:= .exit id) (.one (fenced_calm hb hr rfl) stepR_scope) ⟨fun k' hk=>harr.1 k' (by simp [exitTo,hk]),fun h1 hk=>harr.2 h1 (by simp [exitTo,hk])⟩⟩
 |ret=>exact ⟨_,_,w₁,⟨ds1,a2,rfl,hq⟩,ArrivesIn.of_steps (e:= .ret) (.one (fenced_calm hb hr rfl) stepR_scope) harr⟩
 |panic ch=>exact ⟨_,_,w₁,⟨ds1,a2,rfl,hq⟩,ArrivesIn.of_steps (e:=(.panic ch)) (.one (fenced_calm hb hr rfl) stepR_scope) harr⟩
 |outgrown=>exact ⟨_,_,w₁,⟨ds1,a2,rfl,hq⟩,ArrivesIn.of_steps (e:= .outgrown) (.one (fenced_calm hb hr rfl) stepR_scope) harr⟩
theorem xsc_ret {Q:QX} {ds:List Deferred} {a:Act} {w:World} (h:Q ds .ret a w):noGotoX Q ds .ret a w:=h
theorem TxI.kvlen {B:Nat} {d:Db} {P:Pl} {n:Int} {K:Nat} {U:Ens} {es:List Ent} (h:TxI B d P n K U es): ∀e∈kvOf U es,e.1.length<=32/\e.2.length<=64:=fun e he=>by
 unfold kvOf at he;rcases List.mem_append.1 he with he|he
 ·obtain ⟨u,hu,rfl⟩:=List.mem_map.1 he;obtain ⟨⟨_,h1⟩,h2⟩:=h.ub u hu;refine ⟨?_, ?_⟩
  ·show (107::u.1).length<=32;rw [List.length_cons];omega
  show u.2.length<=64;omega
 obtain ⟨u,hu,rfl⟩:=List.mem_map.1 he;have h1:(ueOf u).2.length<=60:=enc_len (h.eok u hu);refine ⟨?_,by omega⟩;show (keyL u.tx u.n).length<=32;rw [keyL_len];omega
theorem OR.enq {D:Sto} {T:Nat} {v:Value} {xs ys:Ens} {s:Seg} (h:OR 2 EnR D T v xs s) (e:ys=xs):OR 2 EnR D T v ys s:=e▸h
theorem told_user {U:Ens} {es:List Ent} {to:Bs} {x:Bs×Bs} (h:x∈kvOf U es) (ht:toldTo (highK to) x.1=true): ∃u∈U,x=usrOf u:=by
 unfold kvOf at h;rcases List.mem_append.1 h with h|h
 ·obtain ⟨u,hu,rfl⟩:=List.mem_map.1 h;exact ⟨u,hu,rfl⟩
 obtain ⟨e,_,rfl⟩:=List.mem_map.1 h;rw [high_und] at ht;cases ht
theorem key_cut {x u:Bs×Bs} (h:x=usrOf u):((x.1.drop 1).take (x.1.length - 1))=u.1:=by subst h;show ((107::u.1).drop 1).take ((107::u.1).length - 1)=u.1;simp
end Go.Proofs.YtkknmpkcfpdllaaGreatDoor.B
