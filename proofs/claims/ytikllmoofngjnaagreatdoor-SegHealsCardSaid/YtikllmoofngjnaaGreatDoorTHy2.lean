/- What functions of the program compute, each function once: steps over the model, and the plain law of it. -/
import Derived.Test.YtikllmoofngjnaaGreatDoorTHy1
import Derived.Test.YtikllmoofngjnaaGreatDoorSIter
import Derived.Test.YtikllmoofngjnaaGreatDoorTFacts
namespace Go.Proofs.YtikllmoofngjnaaGreatDoor.B
open Go Go.Proofs
set_option linter.unusedVariables false
set_option linter.unusedSimpArgs false
set_option maxRecDepth 20000
set_option maxHeartbeats 8000000
def MapU (D:Sto) (m:List (Int×Value)) (U:Int->Option Rc):Prop:= ∀k,match U k with
 |none=>getM m k=none
 |some x=>x.lsn=k/\ ∃vs,getM m k=some (.agg vs.toArray)/\RcR D vs x
theorem MapU.mono {D D':Sto} {m:List (Int×Value)} {U:Int->Option Rc} (h:MapU D m U) (hD:Le D D'):MapU D' m U:=fun k=>by
 have h1:=h k;cases hu:U k with
 |none=>rw [hu] at h1;exact h1
 |some x=>rw [hu] at h1;obtain ⟨e,vs,h2,h3⟩:=h1;exact ⟨e,vs,h2,RcR.keeps D D' vs x hD h3⟩
theorem MapU.nil (D:Sto):MapU D [] (fun _=>none):=fun k=>rfl
def updU (U:Int->Option Rc) (x:Rc):Int->Option Rc:=fun k=>if k=x.lsn then some x else U k
theorem MapU.put {D:Sto} {m:List (Int×Value)} {U:Int->Option Rc} (h:MapU D m U) {x:Rc} {vs:List Value} (hx:RcR D vs x):MapU D (putM m x.lsn (.agg vs.toArray)) (updU U x):=fun k=>by
 unfold updU;rw [getM_put];by_cases e:k=x.lsn
 ·subst e;rw [if_pos rfl,if_pos rfl];exact ⟨rfl,vs,rfl,hx⟩
 rw [if_neg e,if_neg (fun q=>e q.symm)];exact h k
theorem MapU.of_mem {D:Sto} {m:List (Int×Value)} {U:Int->Option Rc} (h:MapU D m U) (hn:(m.map (·.1)).Nodup) {p:Int×Value} (hp:p∈m): ∃x vs,U p.1=some x/\x.lsn=p.1/\p.2= .agg vs.toArray/\RcR D vs x:=by
 have h1:=h p.1;rw [getM_of_mem hn hp] at h1;cases hu:U p.1 with
 |none=>rw [hu] at h1;cases h1
 |some x=>rw [hu] at h1;obtain ⟨e,vs,h2,h3⟩:=h1;injection h2 with h2;exact ⟨x,vs,rfl,e,h2,h3⟩
theorem MapU.has {D:Sto} {m:List (Int×Value)} {U:Int->Option Rc} (h:MapU D m U) {k:Int} {x:Rc} (hu:U k=some x):x.lsn=k/\ ∃v,(k,v)∈m:=by have h1:=h k;rw [hu] at h1;obtain ⟨e,vs,h2,h3⟩:=h1;exact ⟨e,_,getM_mem h2⟩
structure ValsOf (U:Int->Option Rc) (es:List Rc):Prop where
 nd:(es.map (·.lsn)).Nodup
 sound: ∀x∈es,U x.lsn=some x
 full: ∀k x,U k=some x->x∈es
def EsU (U:Int->Option Rc) (vis:List (Int×Value)) (es:List Rc):Prop:=es.map (·.lsn)=vis.reverse.map (·.1)/\ ∀e∈es,U e.lsn=some e
theorem EsU.start (U:Int->Option Rc):EsU U [] []:=⟨rfl,by simp⟩
theorem EsU.step {U:Int->Option Rc} {vis:List (Int×Value)} {es:List Rc} {p:Int×Value} {e:Rc} (h:EsU U vis es) (he:U p.1=some e) (hp:e.lsn=p.1):EsU U (p::vis) (es++ [e]):=by
 refine ⟨?_,fun x hx=> ?_⟩
 ·rw [List.map_append,h.1,List.reverse_cons,List.map_append,List.map_cons,List.map_cons,hp];rfl
 rcases List.mem_append.1 hx with q|q
 ·exact h.2 x q
 rw [List.mem_singleton.1 q,hp];exact he
theorem EsU.len {U:Int->Option Rc} {vis:List (Int×Value)} {es:List Rc} (h:EsU U vis es):es.length=vis.length:=by have:=congrArg List.length h.1;simpa using this
structure AllOfV (m vis:List (Int×Value)):Prop where
 all: ∀p∈m,p∈vis
 sub: ∀p∈vis,p∈m
 nd:(vis.map (·.1)).Nodup
theorem AllOfV.len {m vis:List (Int×Value)} (h:AllOfV m vis):vis.length<=m.length:=
 Vis.len (es:= #[]) (seen:= #[]) ⟨h.sub,h.nd,fun e he=>by simp at he⟩
theorem EsU.vals {D:Sto} {m vis:List (Int×Value)} {U:Int->Option Rc} {es:List Rc} (h:EsU U vis es) (hm:MapU D m U) (hall:AllOfV m vis):ValsOf U es/\es.length<=m.length:=by
 have hnd:(es.map (·.lsn)).Nodup:=by rw [h.1,List.map_reverse];exact (List.reverse_perm _).nodup_iff.2 hall.nd
 refine ⟨⟨hnd,h.2,fun k x hu=> ?_⟩,by rw [h.len];exact hall.len⟩;obtain ⟨e,v,hk⟩:=hm.has hu;have h1:k∈es.map (·.lsn):=by rw [h.1];exact List.mem_map_of_mem (f:=(·.1)) (List.mem_reverse.2 (hall.all _ hk))
 obtain ⟨y,hy,hye⟩:=List.mem_map.1 h1;have h2:=h.2 y hy;rw [hye,hu] at h2;injection h2 with h2;subst h2;exact hy
def YieldV (l:Nat) (vs:Array Value) (w:World) (R:Ending->World->Prop):Prop:= ∃r,w.heap[l]? =some (.loop r)/\vs.size=r.params.size/\RoundAt Tryz.prog l r vs w R
theorem Inv.shutV {w0 w:World} {D:Sto} {ss:List Seg} {b:Nat} {o:Obj} (h:Inv w0 D ([(b,o)]::ss) w): ∃D',Le D D'/\Inv w0 D' ss w/\D' b=some o:=
 ⟨_,h.le_shut,h.shut,by simp [Sto.put]⟩
theorem Inv.giveV {w0 w:World} {D:Sto} {ms ss:List Seg} {c sp:Seg} (h:Inv w0 D (c::sp::(ms++ss)) w):Inv w0 D (sp::(ms++(c::ss))) w:=
 h.perm ((List.Perm.trans (List.perm_middle.cons sp) (List.Perm.swap c sp _)).flatten)
theorem Inv.fetchV {w0 w:World} {D:Sto} {ms ss:List Seg} {c sp:Seg} (h:Inv w0 D (sp::(ms++(c::ss))) w):Inv w0 D (c::sp::(ms++ss)) w:=
 h.perm ((List.Perm.trans (List.Perm.swap sp c _) (List.perm_middle.symm.cons sp)).flatten)
theorem x_roundV {l:Nat} {r:Loop} {v1:Value} {t1:Tmp} {tm:Array Value} {R:Ending->World->Prop} {N:Nat} {env:Env} {w:World} (Z:EnvOk N env ⟨tm, []⟩) (ht:r.tmps=tm) (hp:r.params= #[t1]) (h1:Nat.blt t1 N=true)
  (h: ∀a',EnvOk N ((t1,v1)::env) a'->wpX (some l) Tryz.prog [] r.assign (beginX Tryz.prog l r.body R) a' w):RoundAt Tryz.prog l r #[v1] w R:=
 x_round (ps:= [(t1,v1)]) Z ht (by rw [hp];simp) (by simp [h1]) h
theorem Vis.lessV {es:Array MapEntry} {seen:Array Nat} {m vis:List (Int×Value)} {p:Int×Value} (h:Vis es seen m (p::vis)):vis.length<m.length:=by have:=h.len;simp only [List.length_cons] at this;omega
structure VRounds (w0:World) (D0:Sto) (l:Nat) (bw:Nat) (es:Array MapEntry) (clk:Nat) (m:List (Int×Value)) (J:List (Int×Value)->Sto->List Seg->Prop):Prop where
 mono: ∀vis D D' ms,Le D D'->J vis D ms->J vis D' ms
 round: ∀vis p D ms rest w,p∈m->p ∉ vis->vis.length<m.length->Le D0 D->J vis D ms->Inv w0 D ([(bw, .map es clk)]::(ms++rest)) w->
  YieldV l #[p.2] w fun en w'=> ∃D' ms',en= .returned (.bool true)/\Le D D'/\J (p::vis) D' ms'/\Inv w0 D' ([(bw, .map es clk)]::(ms'++rest)) w'
def ValSeqOk (D:Sto) (v:Value) (bw:Nat) (es:Array MapEntry) (clk:Nat) (m:List (Int×Value)):Prop:= ∃f cap,v= .func (.func f) #[] cap/\enters Tryz.prog f=true/\
 ∀(w0 w:World) (D':Sto) (ms ss:List Seg) (l:Nat) (J:List (Int×Value)->Sto->List Seg->Prop),Le D D'->Inv w0 D' ([(bw, .map es clk)]::(ms++ss)) w->VRounds w0 D' l bw es clk m J->J [] D' ms->
  Calls Tryz.prog f (#[.func (.yield l) #[] #[]]++cap) w (Ret fun _ w'=> ∃vis D2 ms',Le D' D2/\AllOfV m vis/\J vis D2 ms'/\Inv w0 D2 ([(bw, .map es clk)]::(ms'++ss)) w')
theorem VValues1_spec {w0 w:World} {D:Sto} {ss ms:List Seg} {bw clk l:Nat} {es:Array MapEntry} {m:List (Int×Value)} {U:Int->Option Rc} {J:List (Int×Value)->Sto->List Seg->Prop} (I:Inv w0 D ([(bw, .map es clk)]::(ms++ss)) w) (hm:IntMap es clk m) (hor:MapU D m U) {b1 T1:Nat} {fr1:Nat×Nat} (hb:D b1=some (.cells #[.map (some bw)] T1 fr1)) (hR:VRounds w0 D l bw es clk m J) (hJ0:J [] D ms) :
  Calls Tryz.prog 191 #[.func (.yield l) #[] #[], .pointer (some ⟨b1,0,none⟩)] w (Ret fun r w'=> ∃vis D' ms',Le D D'/\AllOfV m vis/\J vis D' ms'/\Inv w0 D' ([(bw, .map es clk)]::(ms'++ss)) w'):=by
 have Hmono:=hR.mono;refine enter (N:=15) Tryz.func191 rfl rfl rfl ?_;intro a Z;refine wsr ?_;refine zl Z (f_load rfl scal_197 (I.data _ _ (hb)) rfl) ?_;clear Z a;intro a Z;refine l_step rfl (f_range 0 Z I rfl rfl rfl rfl Tryz.underlying197 rfl ?_);clear I Z a w;intro a r1 w Z I;refine gc 2 Z ?_;refine c_loop (X:=Sto×List Seg×Array Nat×List (Int×Value)) (fun x=> [(0,_),(6,_)]) (fun x w=>Le D x.1/\Vis es x.2.2.1 m x.2.2.2/\J x.2.2.2 x.1 x.2.1/\Inv w0 x.1 ([(r1, .mapIter (some bw) clk x.2.2.1 clk)]:: [(bw, .map es clk)]::(x.2.1++ss)) w) (fun x=>m.length - x.2.2.2.length) (D,ms, #[], []) (Z.pick [0,6]) ⟨Le.refl _,Vis.start _ _,hJ0,I⟩ ?_;clear Z I a w;rintro ⟨D1,ms1,seen,vis⟩ a w Z ⟨hD1,hv,hJ1,I⟩;(try dsimp only at Z);(try dsimp only at hD1);(try dsimp only at hv);(try dsimp only at hJ1);(try dsimp only at I);refine wsr ?_;refine l_step rfl (o_next 1 0 Z I rfl rfl rfl rfl rfl rfl hm hv ?_ ?_)
 ·clear Z a;intro hall a Z;refine go 8 Z I ?_;clear Z a;intro a Z;refine ret0 rfl Z ?_;exact ⟨vis,_,ms1,hD1,⟨hall,hv.sub,hv.nd⟩,hJ1,I.drop⟩
 clear Z I a w;rintro ⟨pk,pv⟩ hpm hpn seen2 w hv2 hlast I a Z;obtain ⟨e9,vs9,heo9,hpk9,hpv9,hue9⟩:=hor.of_mem hm.nd hpm;obtain ⟨ku9,vu9,rfl,hku9,hvu9,hok9⟩:=hue9;replace hpv9:pv=_:=hpv9;subst hpv9;obtain ⟨A2,c3,rfl,_⟩:=hku9.slice;obtain ⟨A4,c5,rfl,_⟩:=hvu9.slice;refine go 8 Z I ?_;clear Z a;intro a Z;refine zl Z (r_entry rfl (I.seg 1 rfl) (I.seg 0 rfl) hm hlast) ?_;clear Z a;intro a Z;refine zx Z ?_;clear Z a;intro a Z;refine l_step rfl (f_alloc (cs:= #[.int .i64 0, .int .i64 0, .int .i64 0, .int .i64 0, .int .i64 0, .int .i64 0, .int .i64 0, .slice none 0 0, .slice none 0 0, .bool false]) Z I rfl rfl rfl zer_42 rfl ?_);clear I Z a w;intro a b6 w Z I;refine l_step rfl (f_store (l:= [_,_,_,_,_,_,_,_,_,_]) (ss':=_::_) 0 Z I rfl rfl rfl rfl rfl sz_42 (by simp [Value.cells,Value.oneCell',pgCells,rcCells,msCells,zPg,FDC]) rfl rfl rfl ?_);clear I w;intro w I;refine wnt ?_;refine wp_seq ?_;refine y_region ?_;refine y_step rfl (fun _ h=>by cases h) (o_pure Z rfl rfl (p_move rfl).run ?_);clear Z a;intro a Z;refine y_step rfl (fun _ h=>by cases h) (o_pure Z rfl rfl (f_loadA (vs:= [_,_,_,_,_,_,_,_,_,_]) rfl agg_42 (I.seg 0 rfl) rfl rfl) ?_);clear Z a;intro a Z;replace I:=I.erase 0;obtain ⟨rr,hl0,hz0,hround⟩:=hR.round vis _ _ ms1 _ w hpm hpn hv2.lessV hD1 hJ1 I.giveV;refine y_yield Z rfl rfl rfl rfl rfl rfl hl0 hz0 (hround.mono ?_);clear hl0 hz0 hround rr I Z a w;rintro en w ⟨D9,ms9,rfl,hD9,hJ9,I⟩;refine ⟨_,rfl, ?_⟩;intro a Z;replace I:=I.fetchV;refine y_step rfl (fun _ h=>by cases h) (o_pure Z rfl rfl (p_not rfl).run ?_);clear Z a;intro a Z;refine y_nil ?_;refine gc 5 Z ?_;exact ⟨(D9,ms9,seen2,_::vis),Z.pick [0,6],⟨hD1.trans hD9,hv2,hJ9,I⟩,by have:=hv2.len;simp only [List.length_cons] at this;show m.length - (vis.length+1)<m.length - vis.length;omega⟩
theorem MValues_spec {w0 w:World} {D:Sto} {ss:List Seg} (I:Inv w0 D ss w) {bw clk:Nat} {es:Array MapEntry} {m:List (Int×Value)} {U:Int->Option Rc} (hm:IntMap es clk m) (hor:MapU D m U) :
  Calls Tryz.prog 144 #[.map (some bw)] w (Ret fun r w'=> ∃D',Le D D'/\ValSeqOk D' r bw es clk m/\Inv w0 D' ss w'):=by
 refine enter (N:=4) Tryz.func144 rfl rfl rfl ?_;intro a Z;refine wsr ?_;refine l_step rfl (f_box (cs:= #[_]) Z I rfl rfl rfl rfl rfl ?_);clear I Z a w;intro a b1 w Z I;refine go 3 Z I ?_;clear Z a;intro a Z;refine zs Z (p_func (vs:= #[]) (us:= #[.pointer (some ⟨b1,0,none⟩)]) rfl rfl) ?_;clear Z a;intro a Z;refine go 3 Z I ?_;clear Z a;intro a Z;refine rt1 Z ?_;obtain ⟨Da,hDa,hIa,hda⟩:=Inv.shutV I;exact ⟨Da,hDa,⟨191,_,rfl,ent_191,fun w0 w D9 ms ss l J hD9 I hR hJ=>VValues1_spec I hm (hor.mono (hDa.trans hD9)) (hD9 _ _ hda) hR hJ⟩,hIa⟩
theorem VAppendSeq_spec {w0 w:World} {D:Sto} {ss:List Seg} {bw clk:Nat} {es:Array MapEntry} {m:List (Int×Value)} {U:Int->Option Rc} (I:Inv w0 D ([(bw, .map es clk)]::ss) w) {vq:Value} (hq:ValSeqOk D vq bw es clk m) (hlm:m.length<=100000) (hmnd:(m.map (·.1)).Nodup) (hor:MapU D m U) :
  Calls Tryz.prog 190 #[.slice none 0 0,vq] w (Ret fun r w'=> ∃vis es9 D' so,Le D D'/\AllOfV m vis/\EsU U vis es9/\OR 10 RcR D' 42 r es9 so/\Inv w0 D' (so:: [(bw, .map es clk)]::ss) w'):=by
 obtain ⟨fq,capq,rfl,hfq,hcall⟩:=hq;refine enterX (N:=13) Tryz.func190 rfl rfl rfl ?_;intro a Z;refine x_seq ?_;refine xrl ?_;refine l_step rfl (f_box (cs:= #[_]) Z I rfl rfl rfl rfl rfl ?_);clear I Z a w;intro a b1 w Z I;refine za Z ?_;clear Z a;intro a Z;refine wpList_nil ?_;refine x_then_normal ?_;refine x_seq ?_;refine x_seq ?_;refine xrl ?_;refine zm Z ?_;clear Z a;intro a Z;refine wpList_nil ?_;refine x_then_normal ?_;refine x_block ?_;refine x_range Z I rfl hfq ?_;clear I w;intro fn lp kd tm rr w hT hR0 I;replace I:=I.nilseg;replace I:=I.bring 3;replace I:=I.bring 3;replace I:=I.bring 3;replace I:=I.bring 4;refine (hcall _ _ _ [_,_,_,_] _ lp (fun vis9 D9 ms9=> ∃es9 vo so,ms9= [[(lp, .loop rr)], [(kd, .deferred (some []))], [(b1, .cells #[vo] 30 (0,0))],so]/\OR 10 RcR D9 42 vo es9 so/\EsU U vis9 es9) (Le.refl _) I ⟨?_, ?_⟩ ⟨[], .slice none 0 0, [],rfl,OR.nil _ _ _ _,EsU.start _⟩).mono ?_
 ·rintro vis9 D9 D8 ms9 hD8 ⟨es9,vo,so,h1,h2,h3⟩;exact ⟨es9,vo,so,h1,OR.mono RcR.keeps h2 hD8,h3⟩
 ·clear I Z a w;rintro vis9 p9 D9 ms9 rest w hp9 hn9 hl9 hD9 ⟨es9,vo,so,rfl,hO9,hev9⟩ I;simp only [List.cons_append,List.nil_append] at I;subst hR0;obtain ⟨Ao,co,rfl,_⟩:=hO9.slice;have hkl:=hev9.len;obtain ⟨e9,vs9,heo9,hpk9,hpv9,hue9⟩:=hor.of_mem hmnd hp9;obtain ⟨ku9,vu9,rfl,hku9,hvu9,hok9⟩:=hue9;refine ⟨_,I.seg 1 rfl,rfl,x_roundV hT rfl rfl rfl ?_⟩;intro a Z;clear hT;rw [hpv9] at Z;obtain ⟨A2,c3,rfl,_⟩:=hku9.slice;obtain ⟨A4,c5,rfl,_⟩:=hvu9.slice;refine xrl ?_;refine l_step rfl (f_alloc (cs:= #[.int .i64 0, .int .i64 0, .int .i64 0, .int .i64 0, .int .i64 0, .int .i64 0, .int .i64 0, .slice none 0 0, .slice none 0 0, .bool false]) Z I rfl rfl rfl zer_42 rfl ?_);clear I Z a w;intro a b6 w Z I;refine l_step rfl (f_store (l:= [_,_,_,_,_,_,_,_,_,_]) (ss':=_::_) 0 Z I rfl rfl rfl rfl rfl sz_42 (by simp [Value.cells,Value.oneCell',pgCells,rcCells,msCells,zPg,FDC]) rfl rfl rfl ?_);clear I w;intro w I;refine wpList_nil ?_;refine x_begin 2 I rfl rfl ?_;clear I w;intro w I;(try simp only [nrm,Value.cells] at I);refine x_block ?_;refine xrl ?_;refine zl Z (f_load rfl scal_30 (I.seg 4 rfl) rfl) ?_;clear Z a;intro a Z;refine zl Z (f_loadA (vs:= [_,_,_,_,_,_,_,_,_,_]) rfl agg_42 (I.seg 0 rfl) rfl rfl) ?_;clear Z a;intro a Z;refine l_step rfl (f_lit (vs:= [(0,_)]) (l:= [_,_,_,_,_,_,_,_,_,_]) Z I rfl rfl rfl rfl Tryz.underlying30 zs_42 rfl rfl rfl ?_);clear I Z a w;intro a b7 w Z I;refine l_step rfl (o_appendOR (R:=RcR) (el:=e9) 6 0 Z I rfl rfl rfl rfl rfl Tryz.underlying30 zsb_42 rfl rfl rfl hO9 rfl rfl (⟨_,_,rfl,(hku9.mono hD9),(hvu9.mono hD9),hok9⟩) (by simp [Value.oneCell']) (by omega) (by omega) ?_);clear I Z a w;intro v8 s9 w hO10 I a Z;obtain ⟨A11,c12,rfl,_⟩:=hO10.slice;replace I:=I.erase 0;(try simp only [nrm,Value.cells] at I);refine l_step rfl (f_store (l:= [_]) (ss':=_::_::_::_::_::_) 4 Z I rfl rfl rfl rfl rfl sz_30 (by simp [Value.cells,Value.oneCell',pgCells,rcCells,msCells,zPg,FDC]) rfl rfl rfl ?_);clear I w;intro w I;refine wpList_nil ?_;refine x_blk_normal ?_;refine x_endN 2 I rfl ?_;clear I w;intro w I;(try simp only [nrm,Value.cells] at I);replace I:=I.erase 0;exact ⟨D9,_,rfl,Le.refl _,⟨_,_,_,rfl,hO10,hev9.step heo9 hpk9⟩,I⟩
 rintro _ w ⟨_,rfl,vis,D9,ms9,hD9,hall,⟨es9,vo,so,rfl,hO9,hev9⟩,I⟩;simp only [List.cons_append,List.nil_append] at I;subst hR0;obtain ⟨Ao,co,rfl,_⟩:=hO9.slice;refine x_done (s:= .ready) 1 I rfl (fun h=>by cases h) ?_;clear I w;intro w I;(try simp only [nrm,Value.cells] at I);refine x_blk_normal ?_;refine x_then_normal ?_;refine x_seq ?_;refine xrl ?_;refine go 2 Z I ?_;clear Z a;intro a Z;refine wpList_nil ?_;refine x_then_normal ?_;refine x_ret ?_;refine x_mark 1 I rfl ?_;clear I w;intro w I;replace I:=I.erase 1;(try simp only [nrm,Value.cells] at I);refine x_fin ?_;refine rt1 Z ?_;replace I:=I.erase 1;replace I:=I.bring 1;exact ⟨vis,es9,D9,_,hD9,hall,hev9,hO9,I⟩
theorem VCollect_spec {w0 w:World} {D:Sto} {ss:List Seg} {bw clk:Nat} {es:Array MapEntry} {m:List (Int×Value)} {U:Int->Option Rc} (I:Inv w0 D ([(bw, .map es clk)]::ss) w) {vq:Value} (hq:ValSeqOk D vq bw es clk m) (hlm:m.length<=100000) (hmnd:(m.map (·.1)).Nodup) (hor:MapU D m U) :
  Calls Tryz.prog 143 #[vq] w (Ret fun r w'=> ∃vis es9 D' so,Le D D'/\AllOfV m vis/\EsU U vis es9/\OR 10 RcR D' 42 r es9 so/\Inv w0 D' (so:: [(bw, .map es clk)]::ss) w'):=by
 refine enter (N:=5) Tryz.func143 rfl rfl rfl ?_;intro a Z;refine go 5 Z I ?_;clear Z a;intro a Z;refine l_step rfl (o_call Z rfl rfl rfl rfl ent_190 (VAppendSeq_spec I hq hlm hmnd hor) ?_);clear I Z a;rintro r w ⟨vis,es9,D1,so3,hD2,hall,hev9,hO4,I⟩ a Z;obtain ⟨A5,c6,rfl,_⟩:=hO4.slice;refine go 3 Z I ?_;clear Z a;intro a Z;refine rt1 Z ?_;exact ⟨vis,es9,D1,_,hD2,hall,hev9,hO4,I⟩
end Go.Proofs.YtikllmoofngjnaaGreatDoor.B
