/- What functions of the program compute, each function once: steps over the model, and the plain law of it. -/
import Derived.Test.YtkknmpkcfpdllaaGreatDoorTTx11
import Derived.Test.YtkknmpkcfpdllaaGreatDoorTFacts
namespace Go.Proofs.YtkknmpkcfpdllaaGreatDoor.B
open Go Go.Proofs
set_option linter.unusedVariables false
set_option linter.unusedSimpArgs false
set_option maxRecDepth 20000
set_option maxHeartbeats 8000000
theorem VisS.len {es:Array MapEntry} {seen:Array Nat} {m vis:List (ByteArray×Value)} (h:VisS es seen m vis):vis.length<=m.length:=by
 have hnd:=h.nd;have hsub: ∀k∈vis.map (·.1),k∈m.map (·.1):=fun k hk=>by
  obtain ⟨p,hp,rfl⟩:=List.mem_map.1 hk;exact List.mem_map_of_mem (h.sub p hp)
 have key: ∀(a b:List ByteArray),a.Nodup->(∀k∈a,k∈b)->a.length<=b.length:=by
  intro a;induction a with
  |nil=>intro b _ _;simp
  |cons x a ih=>
   intro b hn hs;have hn':=List.nodup_cons.1 hn;have hx:=hs x (by simp);have:=ih (b.erase x) hn'.2 (fun k hk=>(List.mem_erase_of_ne (fun e=>hn'.1 (by rw [<-e];exact hk))).2 (hs k (by simp [hk])));rw [List.length_erase_of_mem hx] at this;have hpos:=List.length_pos_of_mem hx;simp only [List.length_cons];omega
 have:=key _ _ hnd hsub;simpa using this
theorem VisS.less {es:Array MapEntry} {seen:Array Nat} {m vis:List (ByteArray×Value)} {p:ByteArray×Value} (h:VisS es seen m (p::vis)):vis.length<m.length:=by have:=h.len;simp only [List.length_cons] at this;omega
structure VRounds (w0:World) (D0:Sto) (l:Nat) (bw:Nat) (es:Array MapEntry) (clk:Nat) (m:List (ByteArray×Value)) (J:List (ByteArray×Value)->Sto->List Seg->Prop):Prop where
 mono: ∀vis D D' ms,Le D D'->J vis D ms->J vis D' ms
 round: ∀vis p D ms rest w,p∈m->p ∉ vis->vis.length<m.length->Le D0 D->J vis D ms->Inv w0 D ([(bw, .map es clk)]::(ms++rest)) w->
  YieldOk l #[p.2] w fun en w'=> ∃D' ms',en= .returned (.bool true)/\Le D D'/\J (p::vis) D' ms'/\Inv w0 D' ([(bw, .map es clk)]::(ms'++rest)) w'
structure AllOfS (m vis:List (ByteArray×Value)):Prop where
 all: ∀p∈m,p∈vis
 sub: ∀p∈vis,p∈m
 nd:(vis.map (·.1)).Nodup
def ValSeqOk (D:Sto) (v:Value) (bw:Nat) (es:Array MapEntry) (clk:Nat) (m:List (ByteArray×Value)):Prop:= ∃f cap,v= .func (.func f) #[] cap/\enters Tryz.prog f=true/\
 ∀(w0 w:World) (D':Sto) (ms ss:List Seg) (l:Nat) (J:List (ByteArray×Value)->Sto->List Seg->Prop),Le D D'->Inv w0 D' ([(bw, .map es clk)]::(ms++ss)) w->VRounds w0 D' l bw es clk m J->J [] D' ms->
  Calls Tryz.prog f (#[.func (.yield l) #[] #[]]++cap) w (Ret fun _ w'=> ∃vis D2 ms',Le D' D2/\AllOfS m vis/\J vis D2 ms'/\Inv w0 D2 ([(bw, .map es clk)]::(ms'++ss)) w')
theorem OldR.of_mem {D:Sto} {p:ByteArray×Value}: ∀{m:List (ByteArray×Value)} {l:List Ent},OldR D m l->p∈m-> ∃e∈l,p.1=strOf e.key/\ ∃vs,p.2= .agg vs.toArray/\UeR D vs e
 | [], [],_,hp=>by simp at hp
 |(s,v)::m,e::l,⟨h1,h2,h3⟩,hp=>by
  rcases List.mem_cons.1 hp with rfl|hp
  ·exact ⟨e,by simp,h1,h2⟩
  obtain ⟨e',q1,q2⟩:=OldR.of_mem h3 hp;exact ⟨e',by simp [q1],q2⟩
 | [],_::_,h,_=>h.elim
 |_::_, [],h,_=>h.elim
theorem OldR.to_mem {D:Sto} {e:Ent}: ∀{m:List (ByteArray×Value)} {l:List Ent},OldR D m l->e∈l->(strOf e.key∈m.map (·.1))/\Byt e.key
 |(s,v)::m,a::l,⟨h1,⟨vs,_,h2⟩,h3⟩,he=>by
  rcases List.mem_cons.1 he with rfl|he
  ·exact ⟨by simp [h1],h2.byt⟩
  obtain ⟨q1,q2⟩:=OldR.to_mem h3 he;exact ⟨List.mem_cons_of_mem _ q1,q2⟩
 | [], [],_,he=>by simp at he
 | [],_::_,h,_=>h.elim
 |_::_, [],h,_=>h.elim
theorem OldR.len {D:Sto}: ∀{m:List (ByteArray×Value)} {l:List Ent},OldR D m l->m.length=l.length
 | [], [],_=>rfl
 |_::m,_::l,⟨_,_,h⟩=>by simp [OldR.len h]
 | [],_::_,h=>h.elim
 |_::_, [],h=>h.elim
def EsV (old:List Ent) (vis:List (ByteArray×Value)) (es:List Ent):Prop:=es.map (fun e=>strOf e.key)=vis.reverse.map (·.1)/\ ∀e∈es,e∈old
theorem EsV.start (old:List Ent):EsV old [] []:=⟨rfl,by simp⟩
theorem EsV.step {old:List Ent} {vis:List (ByteArray×Value)} {es:List Ent} {p:ByteArray×Value} {e:Ent} (h:EsV old vis es) (he:e∈old) (hp:p.1=strOf e.key):EsV old (p::vis) (es++ [e]):=by
 refine ⟨?_,fun x hx=> ?_⟩
 ·rw [List.map_append,h.1,List.reverse_cons,List.map_append,List.map_cons,List.map_cons,hp];rfl
 rcases List.mem_append.1 hx with q|q
 ·exact h.2 x q
 rw [List.mem_singleton.1 q];exact he
theorem EsV.len {old:List Ent} {vis:List (ByteArray×Value)} {es:List Ent} (h:EsV old vis es):es.length=vis.length:=by have:=congrArg List.length h.1;simpa using this
theorem strict_ext: ∀{l1 l2:List Ent},l1.Pairwise (fun a b=>a.n<b.n)->l2.Pairwise (fun a b=>a.n<b.n)->(∀x,x∈l1↔x∈l2)->l1=l2
 | [], [],_,_,_=>rfl
 | [],b::_,_,_,h=>by have:=(h b).2 (by simp);simp at this
 |a::_, [],_,_,h=>by have:=(h a).1 (by simp);simp at this
 |a::l1,b::l2,h1,h2,h=>by
  have k1:=List.pairwise_cons.1 h1;have k2:=List.pairwise_cons.1 h2;have e:a=b:=by
   rcases List.mem_cons.1 ((h a).1 (by simp)) with q|q
   ·exact q
   rcases List.mem_cons.1 ((h b).2 (by simp)) with q2|q2
   ·exact q2.symm
   have:=k2.1 a q;have:=k1.1 b q2;omega
  subst e;congr 1;refine strict_ext k1.2 k2.2 (fun x=> ?_);constructor
  ·intro hx;rcases List.mem_cons.1 ((h x).1 (by simp [hx])) with q|q
   ·have:=k1.1 x hx;rw [q] at this;omega
   exact q
  intro hx;rcases List.mem_cons.1 ((h x).2 (by simp [hx])) with q|q
  ·have:=k2.1 x hx;rw [q] at this;omega
  exact q
theorem entries_are {D:Sto} {m vis:List (ByteArray×Value)} {old es zs:List Ent} (hor:OldR D m old) (hold:old.Pairwise fun a b=>a.n<b.n/\a.key≠b.key) (hall:AllOfS m vis) (hv:EsV old vis es) (hp:zs.Perm es) (hs:zs.Pairwise fun a b=>a.n<=b.n):zs=old:=by
 have hkey: ∀a∈old,∀b∈old,strOf a.key=strOf b.key->a=b:=fun a ha b hb h=>by
  have hk:=strOf_inj (hor.to_mem ha).2 (hor.to_mem hb).2 h;rcases Classical.em (a=b) with q|q
  ·exact q
  exfalso;have hne: ∀l:List Ent,l.Pairwise (fun a b=>a.n<b.n/\a.key≠b.key)->a∈l->b∈l->False:=by
   intro l;induction l with
   |nil=>intro _ h;simp at h
   |cons x l ih=>
    intro hl h1 h2;have hl':=List.pairwise_cons.1 hl;rcases List.mem_cons.1 h1 with e1|e1<;>rcases List.mem_cons.1 h2 with e2|e2
    ·exact q (e1.trans e2.symm)
    ·exact (hl'.1 b e2).2 (by rw [<-e1,hk])
    ·exact (hl'.1 a e1).2 (by rw [<-e2,hk])
    exact ih hl'.2 e1 e2
  exact hne old hold ha hb
 have hmem: ∀x,x∈es↔x∈old:=fun x=>by
  refine ⟨hv.2 x,fun hx=> ?_⟩;obtain ⟨p,hp,he⟩:=List.mem_map.1 (hor.to_mem hx).1;have h1:p.1∈es.map (fun e=>strOf e.key):=by rw [hv.1];exact List.mem_map_of_mem (List.mem_reverse.2 (hall.all p hp))
  obtain ⟨y,hy,hye⟩:=List.mem_map.1 h1;have:=hkey y (hv.2 y hy) x hx (by rw [hye,he]);rw [<-this];exact hy
 have hnd:es.Nodup:=by
  have h1:(es.map fun e=>strOf e.key).Nodup:=by rw [hv.1,List.map_reverse];exact (List.reverse_perm _).nodup_iff.2 hall.nd
  exact (List.pairwise_map.1 h1).imp fun h e=>h (by rw [e])
 have hzn:zs.Nodup:=hp.nodup_iff.2 hnd;have hnn: ∀a∈old,∀b∈old,a.n=b.n->a=b:=by
  have: ∀l:List Ent,l.Pairwise (fun a b=>a.n<b.n/\a.key≠b.key)-> ∀a∈l,∀b∈l,a.n=b.n->a=b:=by
   intro l;induction l with
   |nil=>intro _ a h;simp at h
   |cons x l ih=>
    intro hl a h1 b h2 hab;have hl':=List.pairwise_cons.1 hl;rcases List.mem_cons.1 h1 with e1|e1<;>rcases List.mem_cons.1 h2 with e2|e2
    ·exact e1.trans e2.symm
    ·have:=(hl'.1 b e2).1;rw [<-e1] at this;omega
    ·have:=(hl'.1 a e1).1;rw [<-e2] at this;omega
    exact ih hl'.2 a e1 b e2 hab
  exact this old hold
 refine strict_ext ?_ (hold.imp fun h=>h.1) (fun x=>by rw [hp.mem_iff,hmem]);have h2:zs.Pairwise fun a b=>a.n<=b.n/\a≠b:=List.Pairwise.and hs hzn;have h3: ∀x∈zs,x∈old:=fun x hx=>(hmem x).1 (hp.mem_iff.1 hx);refine h2.imp_of_mem fun {a b} ha hb hab=> ?_;have h4:a.n<=b.n:=hab.1;have h5:a.n≠b.n:=fun q=>hab.2 (hnn a (h3 a ha) b (h3 b hb) q);show a.n<b.n;omega
theorem Values1_spec {w0 w:World} {D:Sto} {ss ms:List Seg} {bw clk l:Nat} {es:Array MapEntry} {m:List (ByteArray×Value)} {old:List Ent} {J:List (ByteArray×Value)->Sto->List Seg->Prop} (I:Inv w0 D ([(bw, .map es clk)]::(ms++ss)) w) (hm:StrMap es clk m) (hor:OldR D m old) {b1 T1:Nat} {fr1:Nat×Nat} (hb:D b1=some (.cells #[.map (some bw)] T1 fr1)) (hR:VRounds w0 D l bw es clk m J) (hJ0:J [] D ms) :
  Calls Tryz.prog 219 #[.func (.yield l) #[] #[], .pointer (some ⟨b1,0,none⟩)] w (Ret fun r w'=> ∃vis D' ms',Le D D'/\AllOfS m vis/\J vis D' ms'/\Inv w0 D' ([(bw, .map es clk)]::(ms'++ss)) w'):=by
 have Hmono:=hR.mono;refine enter (N:=15) Tryz.func219 rfl rfl rfl ?_;intro a Z;refine wsr ?_;refine zl Z (f_load rfl scal_177 (I.data _ _ (hb)) rfl) ?_;clear Z a;intro a Z;refine l_step rfl (f_range 0 Z I rfl rfl rfl rfl Tryz.underlying177 rfl ?_);clear I Z a w;intro a r1 w Z I;refine gc 2 Z ?_;refine c_loop (X:=Sto×List Seg×Array Nat×List (ByteArray×Value)) (fun y=> [(0,_),(6,_)]) (fun y w=>Le D y.1/\VisS es y.2.2.1 m y.2.2.2/\J y.2.2.2 y.1 y.2.1/\Inv w0 y.1 ([(r1, .mapIter (some bw) clk y.2.2.1 clk)]:: [(bw, .map es clk)]::(y.2.1++ss)) w) (fun y=>m.length - y.2.2.2.length) (D,ms, #[], []) (Z.pick [0,6]) ⟨Le.refl _,VisS.start _ _,hJ0,I⟩ ?_;clear Z I a w;rintro ⟨D1,ms1,seen,vis⟩ a w Z ⟨hD1,hv,hJ1,I⟩;(try dsimp only at Z);(try dsimp only at hD1);(try dsimp only at hv);(try dsimp only at hJ1);(try dsimp only at I);refine wsr ?_;refine l_step rfl (so_next 1 0 Z I rfl rfl rfl rfl rfl rfl hm hv ?_ ?_)
 ·clear Z a;intro hall a Z;refine go 8 Z I ?_;clear Z a;intro a Z;refine ret0 rfl Z ?_;exact ⟨vis,_,ms1,hD1,⟨hall,hv.sub,hv.nd⟩,hJ1,I.drop⟩
 clear Z I a w;rintro ⟨pk,pv⟩ hpm hpn seen2 w hv2 hlast I a Z;obtain ⟨e9,heo9,hpk9,vs9,hpv9,hue9⟩:=hor.of_mem hpm;obtain ⟨ku9,vu9,rfl,hku9,hvu9⟩:=hue9;replace hpv9:pv=_:=hpv9;subst hpv9;obtain ⟨A2,c3,rfl,_⟩:=hku9.slice;obtain ⟨A4,c5,rfl,_⟩:=hvu9.slice;refine go 8 Z I ?_;clear Z a;intro a Z;refine zl Z (sr_entry rfl (I.seg 1 rfl) (I.seg 0 rfl) hm hlast) ?_;clear Z a;intro a Z;refine zx Z ?_;clear Z a;intro a Z;refine l_step rfl (f_alloc (cs:= #[.int .i64 0, .int .i64 0, .slice none 0 0, .bool false, .slice none 0 0]) Z I rfl rfl rfl zer_35 rfl ?_);clear I Z a w;intro a b6 w Z I;refine l_step rfl (f_store (l:= [_,_,_,_,_]) (ss':=_::_) 0 Z I rfl rfl rfl rfl rfl sz_35 (by simp [Value.cells,Value.oneCell',pgCells,rcCells,zPg,errV,zUe,zPlan]) rfl rfl rfl ?_);clear I w;intro w I;refine wnt ?_;refine wp_seq ?_;refine y_region ?_;refine y_step rfl (fun _ h=>by cases h) (o_pure Z rfl rfl (p_move rfl).run ?_);clear Z a;intro a Z;refine y_step rfl (fun _ h=>by cases h) (o_pure Z rfl rfl (f_loadA (vs:= [_,_,_,_,_]) rfl agg_35 (I.seg 0 rfl) rfl rfl) ?_);clear Z a;intro a Z;replace I:=I.erase 0;obtain ⟨rr,hl0,hz0,hround⟩:=hR.round vis _ _ ms1 _ w hpm hpn hv2.less hD1 hJ1 I.give;refine y_yield Z rfl rfl rfl rfl rfl rfl hl0 hz0 (hround.mono ?_);clear hl0 hz0 hround rr I Z a w;rintro en w ⟨D9,ms9,rfl,hD9,hJ9,I⟩;refine ⟨_,rfl, ?_⟩;intro a Z;replace I:=I.fetch;refine y_step rfl (fun _ h=>by cases h) (o_pure Z rfl rfl (p_not rfl).run ?_);clear Z a;intro a Z;refine y_nil ?_;refine gc 5 Z ?_;exact ⟨(D9,ms9,seen2,_::vis),Z.pick [0,6],⟨hD1.trans hD9,hv2,hJ9,I⟩,by have:=hv2.len;simp only [List.length_cons] at this;show m.length - (vis.length+1)<m.length - vis.length;omega⟩
theorem MValues_spec {w0 w:World} {D:Sto} {ss:List Seg} (I:Inv w0 D ss w) {bw clk:Nat} {es:Array MapEntry} {m:List (ByteArray×Value)} {old:List Ent} (hm:StrMap es clk m) (hor:OldR D m old) :
  Calls Tryz.prog 187 #[.map (some bw)] w (Ret fun r w'=> ∃D',Le D D'/\ValSeqOk D' r bw es clk m/\Inv w0 D' ss w'):=by
 refine enter (N:=4) Tryz.func187 rfl rfl rfl ?_;intro a Z;refine wsr ?_;refine l_step rfl (f_box (cs:= #[_]) Z I rfl rfl rfl rfl rfl ?_);clear I Z a w;intro a b1 w Z I;refine go 3 Z I ?_;clear Z a;intro a Z;refine zs Z (p_func (vs:= #[]) (us:= #[.pointer (some ⟨b1,0,none⟩)]) rfl rfl) ?_;clear Z a;intro a Z;refine go 3 Z I ?_;clear Z a;intro a Z;refine rt1 Z ?_;obtain ⟨Da,hDa,hIa,hda⟩:=Inv.shut_one I;exact ⟨Da,hDa,⟨219,_,rfl,ent_219,fun w0 w D9 ms ss l J hD9 I hR hJ=>Values1_spec I hm (hor.mono (hDa.trans hD9)) (hD9 _ _ hda) hR hJ⟩,hIa⟩
theorem VAppendSeq_spec {w0 w:World} {D:Sto} {ss:List Seg} {bw clk:Nat} {es:Array MapEntry} {m:List (ByteArray×Value)} {old:List Ent} (I:Inv w0 D ([(bw, .map es clk)]::ss) w) {vq:Value} (hq:ValSeqOk D vq bw es clk m) (hlm:m.length<=100000) (hor:OldR D m old) :
  Calls Tryz.prog 239 #[.slice none 0 0,vq] w (Ret fun r w'=> ∃vis es9 D' so,Le D D'/\AllOfS m vis/\EsV old vis es9/\OR 5 UeR D' 35 r es9 so/\Inv w0 D' (so:: [(bw, .map es clk)]::ss) w'):=by
 obtain ⟨fq,capq,rfl,hfq,hcall⟩:=hq;refine enterX (N:=13) Tryz.func239 rfl rfl rfl ?_;intro a Z;refine x_seq ?_;refine xrl ?_;refine l_step rfl (f_box (cs:= #[_]) Z I rfl rfl rfl rfl rfl ?_);clear I Z a w;intro a b1 w Z I;refine za Z ?_;clear Z a;intro a Z;refine wpList_nil ?_;refine x_then_normal ?_;refine x_seq ?_;refine x_seq ?_;refine xrl ?_;refine zm Z ?_;clear Z a;intro a Z;refine wpList_nil ?_;refine x_then_normal ?_;refine x_block ?_;refine x_range Z I rfl hfq ?_;clear I w;intro fn lp kd tm rr w hT hR0 I;replace I:=I.nilseg;replace I:=I.bring 3;replace I:=I.bring 3;replace I:=I.bring 3;replace I:=I.bring 4;refine (hcall _ _ _ [_,_,_,_] _ lp (fun vis9 D9 ms9=> ∃es9 vo so,ms9= [[(lp, .loop rr)], [(kd, .deferred (some []))], [(b1, .cells #[vo] 22 (0,0))],so]/\OR 5 UeR D9 35 vo es9 so/\EsV old vis9 es9) (Le.refl _) I ⟨?_, ?_⟩ ⟨[], .slice none 0 0, [],rfl,OR.nil _ _ _ _,EsV.start _⟩).mono ?_
 ·rintro vis9 D9 D8 ms9 hD8 ⟨es9,vo,so,h1,h2,h3⟩;exact ⟨es9,vo,so,h1,OR.mono UeR.keeps h2 hD8,h3⟩
 ·clear I Z a w;rintro vis9 p9 D9 ms9 rest w hp9 hn9 hl9 hD9 ⟨es9,vo,so,rfl,hO9,hev9⟩ I;simp only [List.cons_append,List.nil_append] at I;subst hR0;obtain ⟨Ao,co,rfl,_⟩:=hO9.slice;have hkl:=hev9.len;obtain ⟨e9,heo9,hpk9,vs9,hpv9,hue9⟩:=hor.of_mem hp9;obtain ⟨ku9,vu9,rfl,hku9,hvu9⟩:=hue9;refine ⟨_,I.seg 1 rfl,rfl,x_round1 hT rfl rfl rfl ?_⟩;intro a Z;clear hT;rw [hpv9] at Z;obtain ⟨A2,c3,rfl,_⟩:=hku9.slice;obtain ⟨A4,c5,rfl,_⟩:=hvu9.slice;refine xrl ?_;refine l_step rfl (f_alloc (cs:= #[.int .i64 0, .int .i64 0, .slice none 0 0, .bool false, .slice none 0 0]) Z I rfl rfl rfl zer_35 rfl ?_);clear I Z a w;intro a b6 w Z I;refine l_step rfl (f_store (l:= [_,_,_,_,_]) (ss':=_::_) 0 Z I rfl rfl rfl rfl rfl sz_35 (by simp [Value.cells,Value.oneCell',pgCells,rcCells,zPg,errV,zUe,zPlan]) rfl rfl rfl ?_);clear I w;intro w I;refine wpList_nil ?_;refine x_begin 2 I rfl rfl ?_;clear I w;intro w I;(try simp only [nrm,Value.cells] at I);refine x_block ?_;refine xrl ?_;refine go 2 Z I ?_;clear Z a;intro a Z;refine l_step rfl (f_lit (vs:= [(0,_)]) (l:= [_,_,_,_,_]) Z I rfl rfl rfl rfl Tryz.underlying22 zs_35 rfl rfl rfl ?_);clear I Z a w;intro a b7 w Z I;refine l_step rfl (o_appendOR (R:=UeR) (el:=e9) 6 0 Z I rfl rfl rfl rfl rfl Tryz.underlying22 zsb_35 rfl rfl rfl hO9 rfl rfl (⟨_,_,rfl,(hku9.mono hD9),(hvu9.mono hD9)⟩) (by simp [Value.oneCell']) (by omega) (by omega) ?_);clear I Z a w;intro v8 s9 w hO10 I a Z;obtain ⟨A11,c12,rfl,_⟩:=hO10.slice;replace I:=I.erase 0;(try simp only [nrm,Value.cells] at I);refine l_step rfl (f_store (l:= [_]) (ss':=_::_::_::_::_::_) 4 Z I rfl rfl rfl rfl rfl sz_22 (by simp [Value.cells,Value.oneCell',pgCells,rcCells,zPg,errV,zUe,zPlan]) rfl rfl rfl ?_);clear I w;intro w I;refine wpList_nil ?_;refine x_blk_normal ?_;refine x_endN 2 I rfl ?_;clear I w;intro w I;(try simp only [nrm,Value.cells] at I);replace I:=I.erase 0;exact ⟨D9,_,rfl,Le.refl _,⟨_,_,_,rfl,hO10,hev9.step heo9 hpk9⟩,I⟩
 rintro _ w ⟨_,rfl,vis,D9,ms9,hD9,hall,⟨es9,vo,so,rfl,hO9,hev9⟩,I⟩;simp only [List.cons_append,List.nil_append] at I;subst hR0;obtain ⟨Ao,co,rfl,_⟩:=hO9.slice;refine x_done (s:= .ready) 1 I rfl (fun h=>by cases h) ?_;clear I w;intro w I;(try simp only [nrm,Value.cells] at I);refine x_blk_normal ?_;refine x_then_normal ?_;refine x_seq ?_;refine xrl ?_;refine go 2 Z I ?_;clear Z a;intro a Z;refine wpList_nil ?_;refine x_then_normal ?_;refine x_ret ?_;refine x_mark 1 I rfl ?_;clear I w;intro w I;replace I:=I.erase 1;(try simp only [nrm,Value.cells] at I);refine x_fin ?_;refine rt1 Z ?_;replace I:=I.erase 1;replace I:=I.bring 1;exact ⟨vis,es9,D9,_,hD9,hall,hev9,hO9,I⟩
theorem VCollect_spec {w0 w:World} {D:Sto} {ss:List Seg} {bw clk:Nat} {es:Array MapEntry} {m:List (ByteArray×Value)} {old:List Ent} (I:Inv w0 D ([(bw, .map es clk)]::ss) w) {vq:Value} (hq:ValSeqOk D vq bw es clk m) (hlm:m.length<=100000) (hor:OldR D m old) :
  Calls Tryz.prog 217 #[vq] w (Ret fun r w'=> ∃vis es9 D' so,Le D D'/\AllOfS m vis/\EsV old vis es9/\OR 5 UeR D' 35 r es9 so/\Inv w0 D' (so:: [(bw, .map es clk)]::ss) w'):=by
 refine enter (N:=5) Tryz.func217 rfl rfl rfl ?_;intro a Z;refine go 5 Z I ?_;clear Z a;intro a Z;refine l_step rfl (o_call Z rfl rfl rfl rfl ent_239 (VAppendSeq_spec I hq hlm hor) ?_);clear I Z a;rintro r w ⟨vis,es9,D1,so3,hD2,hall,hev9,hO4,I⟩ a Z;obtain ⟨A5,c6,rfl,_⟩:=hO4.slice;refine go 3 Z I ?_;clear Z a;intro a Z;refine rt1 Z ?_;exact ⟨vis,es9,D1,_,hD2,hall,hev9,hO4,I⟩
end Go.Proofs.YtkknmpkcfpdllaaGreatDoor.B
