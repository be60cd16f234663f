/- What functions of the program compute, each function once: steps over the model, and the plain law of it. -/
import Derived.Test.YtikllmoofngjnaaGreatDoorTHeal1
namespace Go.Proofs.YtikllmoofngjnaaGreatDoor.B
open Go Go.Proofs
set_option linter.unusedVariables false
set_option linter.unusedSimpArgs false
structure Cp where
 id:Int
 l:List Rc
 w:Bool
 U:Int->Option Ms
def CpS (D:Sto) (v:Value) (c:Cp) (s:Seg):Prop:= ∃(L:Lg) (bs:Nat) (vl vd:Value) (bt clk:Nat) (es:Array MapEntry) (mt:List (Int×Value)) (sl:Seg),
 v= .pointer (some ⟨bs,0,none⟩)/\s=(bs, .cells #[.int .i64 c.id, .int .i64 0,vl, .map (some bt)] 80 (0,0))::(sl++ [(bt, .map es clk)])/\LgS D vl vd L sl/\IntMap es clk mt/\MapT D mt c.U/\HlI L c.w/\L.h.l=c.l
theorem CpS.mono {D D':Sto} {v:Value} {c:Cp} {s:Seg} (h:CpS D v c s) (hD:Le D D'):CpS D' v c s:=by obtain ⟨L,bs,vl,vd,bt,clk,es,mt,sl,h1,h2,h3,h4,h5,h6,h7⟩:=h;exact ⟨L,bs,vl,vd,bt,clk,es,mt,sl,h1,h2,h3.mono hD,h4,h5.mono hD,h6,h7⟩
theorem CpS.isH {D:Sto} {v:Value} {c:Cp} {s:Seg} (h:CpS D v c s):IsH c.l/\RisesR c.l:=by obtain ⟨L,bs,vl,vd,bt,clk,es,mt,sl,h1,h2,h3,h4,h5,h6,h7⟩:=h;rw [<-h7];exact ⟨h6.h.isH,h6.h.rises⟩
def CpsS (D:Sto):List Value->List Cp->Seg->Prop
 | [], [],s=>s= []
 |v::vs,c::cs,s=> ∃s1 s2,s=s1++s2/\CpS D v c s1/\CpsS D vs cs s2
 |_,_,_=>False
theorem CpsS.mono: ∀{vs:List Value} {cs:List Cp} {s:Seg} {D D':Sto},CpsS D vs cs s->Le D D'->CpsS D' vs cs s
 | [], [],s,_,_,h,_=>h
 |v::vs,c::cs,s,_,_,⟨s1,s2,h1,h2,h3⟩,hD=>⟨s1,s2,h1,h2.mono hD,h3.mono hD⟩
 | [],_::_,_,_,_,h,_=>h.elim
 |_::_, [],_,_,_,h,_=>h.elim
theorem CpsS.snoc: ∀{vs:List Value} {cs:List Cp} {s s1:Seg} {D:Sto} {v:Value} {c:Cp},CpsS D vs cs s->CpS D v c s1->CpsS D (vs++ [v]) (cs++ [c]) (s++s1)
 | [], [],s,s1,_,_,_,h,h1=>⟨s1, [],by rw [show s= [] from h];simp,h1,rfl⟩
 |v::vs,c::cs,s,s1,_,_,_,⟨a,b,h1,h2,h3⟩,h4=>⟨a,b++s1,by rw [h1,List.append_assoc],h2,h3.snoc h4⟩
 | [],_::_,_,_,_,_,_,h,_=>h.elim
 |_::_, [],_,_,_,_,_,h,_=>h.elim
theorem CpsS.isH: ∀{vs:List Value} {cs:List Cp} {s:Seg} {D:Sto},CpsS D vs cs s-> ∀c∈cs,IsH c.l/\RisesR c.l
 | [], [],s,_,_,c,hc=>by cases hc
 |v::vs,c::cs,s,_,⟨s1,s2,h1,h2,h3⟩,x,hx=>by
  rcases List.mem_cons.1 hx with rfl|hx
  ·exact h2.isH
  exact h3.isH x hx
 | [],_::_,_,_,h,_,_=>h.elim
 |_::_, [],_,_,h,_,_=>h.elim
theorem CpsS.focus: ∀{vs:List Value} {cs:List Cp} {s:Seg} {D:Sto},CpsS D vs cs s-> ∀{i:Nat} {v:Value} {c:Cp},vs[i]? =some v->cs[i]? =some c->
  ∃s1 so,(s1++so).Perm s/\CpS D v c s1/\ ∀(D':Sto) (c':Cp) (s1':Seg),Le D D'->CpS D' v c' s1'-> ∃s',s'.Perm (s1'++so)/\CpsS D' vs (cs.set i c') s'
 | [], [],s,_,_,i,v,c,hv,_=>by simp at hv
 |v::vs,c::cs,s,D,⟨s1,s2,h1,h2,h3⟩,0,x,y,hv,hc=>by
  obtain rfl:v=x:=by simpa using hv
  obtain rfl:c=y:=by simpa using hc
  exact ⟨s1,s2,by rw [h1],h2,fun D' c' s1' hD h=>⟨s1'++s2,List.Perm.refl _,s1',s2,rfl,h,h3.mono hD⟩⟩
 |v::vs,c::cs,s,D,⟨s1,s2,h1,h2,h3⟩,i+1,x,y,hv,hc=>by
  obtain ⟨a,b,e1,e2,e3⟩:=h3.focus (i:=i) (v:=x) (c:=y) (by simpa using hv) (by simpa using hc);refine ⟨a,s1++b, ?_,e2,fun D' c' a' hD h=> ?_⟩
  ·rw [h1,<-List.append_assoc];exact ((List.perm_append_comm (l₁:=a) (l₂:=s1)).append_right b).trans (by rw [List.append_assoc];exact e1.append_left s1)
  obtain ⟨s',g1,g2⟩:=e3 D' c' a' hD h;refine ⟨s1++s', ?_,s1,s',rfl,h2.mono hD,g2⟩;rw [<-List.append_assoc];exact (g1.append_left s1).trans (by rw [<-List.append_assoc];exact (List.perm_append_comm (l₁:=s1) (l₂:=a')).append_right b)
 | [],_::_,_,_,h,_,_,_,_,_=>h.elim
 |_::_, [],_,_,h,_,_,_,_,_=>h.elim
theorem set_same {α:Type} {l:List α} {i:Nat} {c:α} (h:l[i]? =some c):l.set i c=l:=by obtain ⟨hi,e⟩:=List.getElem?_eq_some_iff.1 h;rw [<-e];exact List.set_getElem_self hi
theorem CpsS.call {P:Program} {f:FuncId} {args:Array Value} {w0 w:World} {D:Sto} {ss:List Seg} {s:Seg} {vs:List Value} {cs:List Cp} (I:Inv w0 D (s::ss) w) (h:CpsS D vs cs s) {i:Nat} {v:Value} {c:Cp} (hv:vs[i]? =some v) (hc:cs[i]? =some c) {Φ:Value->Sto->Cp->Prop}
  (H: ∀{s1 so:Seg},CpS D v c s1->Inv w0 D (s1::so::ss) w->Calls P f args w (Ret fun r w'=> ∃D' c' s',Le D D'/\Φ r D' c'/\CpS D' v c' s'/\Inv w0 D' (s'::so::ss) w')) :
  Calls P f args w (Ret fun r w'=> ∃D' c' s',Le D D'/\Φ r D' c'/\CpsS D' vs (cs.set i c') s'/\Inv w0 D' (s'::ss) w'):=by
 obtain ⟨s1,so,e1,e2,e3⟩:=h.focus hv hc;have hI2:Inv w0 D (s1::so::ss) w:=I.perm (by simp only [List.flatten_cons,<-List.append_assoc];exact e1.append_right _);refine (H e2 hI2).mono fun _ _ h=>h.imp fun r w ⟨D',c',s',hD,hp,hc',hI'⟩=> ?_;obtain ⟨s2,g1,g2⟩:=e3 D' c' s' hD hc';exact ⟨D',c',s2,hD,hp,g2,hI'.perm (by simp only [List.flatten_cons,<-List.append_assoc];exact g1.append_right _)⟩
theorem CpsS.callX {P:Program} {f:FuncId} {args:Array Value} {w0 w:World} {D:Sto} {ss:List Seg} {s:Seg} {vs:List Value} {cs:List Cp} (I:Inv w0 D (s::ss) w) (h:CpsS D vs cs s) {i:Nat} {v:Value} {c:Cp} (hv:vs[i]? =some v) (hc:cs[i]? =some c) {Φ:Value->Sto->Seg->Prop}
  (H: ∀{s1 so:Seg},CpS D v c s1->Inv w0 D (s1::so::ss) w->Calls P f args w (Ret fun r w'=> ∃D' s2 s',Le D D'/\Φ r D' s2/\CpS D' v c s'/\Inv w0 D' (s2::s'::so::ss) w')) :
  Calls P f args w (Ret fun r w'=> ∃D' s2 s',Le D D'/\Φ r D' s2/\CpsS D' vs cs s'/\Inv w0 D' (s2::s'::ss) w'):=by
 obtain ⟨s1,so,e1,e2,e3⟩:=h.focus hv hc;have hI2:Inv w0 D (s1::so::ss) w:=I.perm (by simp only [List.flatten_cons,<-List.append_assoc];exact e1.append_right _);refine (H e2 hI2).mono fun _ _ h=>h.imp fun r w ⟨D',s2,s',hD,hp,hc',hI'⟩=> ?_;obtain ⟨s3,g1,g2⟩:=e3 D' c s' hD hc';rw [set_same hc] at g2;exact ⟨D',s2,s3,hD,hp,g2,hI'.perm (by simp only [List.flatten_cons];refine List.Perm.append_left _ ?_;simp only [<-List.append_assoc];exact g1.append_right _)⟩
def st0 (w:Bool):Stt:={inc:=1,whole:=w}
section
variable {w0 w:World} {D:Sto} {ss:List Seg} {s:Seg} {v:Value} {c:Cp}
theorem CTickW (I:Inv w0 D (s::ss) w) (hc:CpS D v c s) (hw:c.w=true) {n:Nat} (hn:Far c.l n) {vc:Value} {x:Cf} (hcf:CfV D vc x) (hs6:x.Six) :
  Calls Tryz.prog 22 #[v,vc] w (Ret fun r w'=> ∃D' c' s',Le D D'/\(c'=c/\ ∃vo,r= .tuple #[vo, .nilIface]/\DR 18 MsR D' vo (asks c.id 0 (st0 true) n x.old))/\CpS D' v c' s'/\Inv w0 D' (s'::ss) w'):=by
 obtain ⟨L,bs,vl,vd,bt,clk,es,mt,sl,rfl,rfl,hL,hm,hU,hh,hl⟩:=hc;obtain ⟨hz,hzu⟩:=hn.chain (by rw [<-hl];exact hh.h.isH);rw [<-hl] at hz hzu;have es:L.s=st0 true:=by rw [hh.s,hw];rfl
 have T:=TickW_spec (Inv.three.1 I) hL hm hU hcf hs6 hh.good.gd (by rw [es];rfl) hh.h.fine hz hzu;rw [es] at T;refine T.mono fun _ _ h=>h.imp fun r w ⟨vo,L',sl',D',e,hD,hR,hor,hL',hI'⟩=> ?_;refine ⟨D',c,_,hD,⟨rfl,vo,e,hR⟩,⟨L',bs,vl,vd,bt,clk,_,mt,sl',rfl,rfl,hL',hm,hU.mono hD, ?_, ?_⟩,Inv.three.2 hI'⟩
 ·rcases hor with rfl|rfl
  ·exact hh
  exact hh.scl hz
 rcases hor with rfl|rfl<;>exact hl
theorem CTickB (I:Inv w0 D (s::ss) w) (hc:CpS D v c s) (hw:c.w=false) {vc:Value} {x:Cf} (hcf:CfV D vc x) (hs6:x.Six) (hno:(toldOf c.U x.old).length<3) :
  Calls Tryz.prog 22 #[v,vc] w (Ret fun r w'=> ∃D' c' s',Le D D'/\(c'=c/\ ∃vo,r= .tuple #[vo, .nilIface]/\DR 18 MsR D' vo (asks c.id 0 (st0 false) 0 x.old))/\CpS D' v c' s'/\Inv w0 D' (s'::ss) w'):=by
 obtain ⟨n,hn⟩:=hc.isH.1.far;obtain ⟨L,bs,vl,vd,bt,clk,es,mt,sl,rfl,rfl,hL,hm,hU,hh,hl⟩:=hc;obtain ⟨hz,hzu⟩:=hn.chain (by rw [<-hl];exact hh.h.isH);rw [<-hl] at hz hzu;have es:L.s=st0 false:=by rw [hh.s,hw];rfl
 have T:=TickB_spec (Inv.three.1 I) hL hm hU hcf hs6 hh.good.gd (by rw [es];rfl) n hno;rw [es] at T;refine T.mono fun _ _ h=>h.imp fun r w ⟨vo,L',sl',D',e,hD,hR,hor,hL',hI'⟩=> ?_;refine ⟨D',c,_,hD,⟨rfl,vo,e,hR⟩,⟨L',bs,vl,vd,bt,clk,_,mt,sl',rfl,rfl,hL',hm,hU.mono hD, ?_, ?_⟩,Inv.three.2 hI'⟩
 ·rcases hor with rfl|rfl
  ·exact hh
  exact hh.scl hz
 rcases hor with rfl|rfl<;>exact hl
theorem CHandle (I:Inv w0 D (s::ss) w) (hc:CpS D v c s) (hw:c.w=true) {vm:Value} {m:Ms} (hm:MsV D vm m) (hok:m.Ok) (hto:m.to_=c.id) (hgr:m.group=0) (hre:IsH m.recs) (he:m.epoch=0) (hk:m.kind≠14) {Q:List Rc->Ms->Prop}
  (hans: ∀L,HlI L true->L.h.l=c.l-> ∃x L',AnsOk c.id 0 L m x L'/\HlI L' true/\Q L'.h.l x) :
  Calls Tryz.prog 12 #[v,vm] w (Ret fun r w'=> ∃D' c' s',Le D D'/\(∃vo x l',c'={c with l:=l'}/\r= .tuple #[vo, .nilIface]/\DR 18 MsR D' vo (x.sent m c.id 0)/\Q l' x)/\CpS D' v c' s'/\Inv w0 D' (s'::ss) w'):=by
 obtain ⟨L,bs,vl,vd,bt,clk,es,mt,sl,rfl,rfl,hL,hmm,hU,hh,hl⟩:=hc;rw [hw] at hh;obtain ⟨x,L',hA,hh',hQ⟩:=hans L hh hl;have T:=HandleG_spec (Inv.three.1 I) hL hh.good.gd hm hok hto hgr (fun x hx=>⟨((hre.num x hx).2.2.2.1),by rw [(hre.num x hx).2.2.2.2,he];exact Int.le_refl 0⟩) hk (by rw [hh.s]) hA;refine T.mono fun _ _ h=>h.imp fun r w ⟨vo,D',sl',e,hD,hR,hL',hI'⟩=> ?_;exact ⟨D',{c with l:=L'.h.l},_,hD,⟨vo,x,L'.h.l,rfl,e,hR,hQ⟩,⟨L',bs,vl,vd,bt,clk,_,mt,sl',rfl,rfl,hL',hmm,hU.mono hD,by rw [hw];exact hh',rfl⟩,Inv.three.2 hI'⟩
def wrMsg (id:Int) (k:Nat):Ms:={kind:=1,from_:=9,to_:=id,recs:= [hRec k]}
theorem hMsg_ok {m:Ms} (h1:1<=m.kind/\m.kind<=15) (h2:0<=m.from_/\m.from_<=63) (h3:0<=m.to_/\m.to_<=63) (h4:m.epoch=0) (h5:m.inc=0) (h6:m.group=0) (h7:m.page=0) (h8:0<=m.lsn/\m.lsn<=1000) (h9:m.at_=0) (h10:0<=m.seq/\m.seq<=1000) (h11:m.done=0) (h12:IsH m.recs) (h13:m.recs.length<=1000) (h14:m.spans= []) (h15:m.body=zPg0):m.Ok:=
 ⟨h1,h2,h3,by omega,by omega,by omega,by omega,by omega,by omega,by omega,by omega,⟨by omega,h12.valid⟩,by rw [h14];exact spansOk.nil,h15⟩
theorem CWrite (I:Inv w0 D (s::ss) w) (hc:CpS D v c s) (hw:c.w=true) (hid:0<=c.id/\c.id<6) {k:Nat} (hk:k<16) {vm:Value} (hm:MsV D vm (wrMsg c.id k)) :
  Calls Tryz.prog 12 #[v,vm] w (Ret fun r w'=> ∃D' c' s',Le D D'/\(∃vo l',c'={c with l:=l'}/\r= .tuple #[vo, .nilIface]/\ ∀r,r∈l'↔r∈c.l\/r=hRec k)/\CpS D' v c' s'/\Inv w0 D' (s'::ss) w'):=by
 have hH:IsH (wrMsg c.id k).recs:=IsH.one hk;have T:=CHandle I hc hw hm (hMsg_ok (by show (1:Int)<=1/\(1:Int)<=15;decide) (by show (0:Int)<=9/\(9:Int)<=63;decide) ⟨hid.1,by show c.id<=63;omega⟩ rfl rfl rfl rfl (by show (0:Int)<=0/\(0:Int)<=1000;decide) rfl (by show (0:Int)<=0/\(0:Int)<=1000;decide) rfl hH (by show 1<=1000;decide) rfl rfl) rfl rfl hH rfl (by show (1:Int)≠14;decide)
  (Q:=fun l' _=> ∀r,r∈l'↔r∈c.l\/r=hRec k) fun L hL e=> ?_
 ·refine T.mono fun _ _ h=>h.imp fun r w ⟨D',c',s',hD,⟨vo,x,l',h1,h2,_,h4⟩,h5,h6⟩=>⟨D',c',s',hD,⟨vo,l',h1,h2,h4⟩,h5,h6⟩
 obtain ⟨a1,a2⟩:=hL.add hH;obtain ⟨b1,b2,b3⟩:=hL.news hH;obtain ⟨c1,c2,c3,c4,c5⟩:=hL.h.all hH;obtain ⟨n,hn⟩:=a1.h.isH.far;obtain ⟨hz,hzu⟩:=hn.chain a1.h.isH;have eh:=Lg.addRecs_h L (wrMsg c.id k).recs;refine ⟨_,_,ansWrite (z:=n) hL.good rfl (by show 1<=16384;decide) (fun x hx=>(hH.num x hx).2.2.2.2) c1 b3 (fun _=>hL.room) (by rw [hL.s];rfl) (by rw [hL.s];rfl) c2.fine (by rw [<-eh];exact hzu),a1.scl hz,fun r=> ?_⟩;rw [<-e];refine (a2 r).trans ?_;show r∈L.h.l\/r∈ [hRec k]↔_;rw [List.mem_singleton]
def tellOf (l:List Rc) (id a:Int):Ms:={kind:=14,from_:=id,to_:=a,seq:=1,recs:=l}
theorem CHyd (I:Inv w0 D (s::ss) w) (hc:CpS D v c s) (hw:c.w=true) (hid:0<=c.id/\c.id<6) {a z:Int} (ha:0<=a/\a<6) {vm:Value} (hm:MsV D vm (askOf a 0 (st0 false) z c.id)) :
  Calls Tryz.prog 12 #[v,vm] w (Ret fun r w'=> ∃D' c' s',Le D D'/\(c'=c/\ ∃vo,r= .tuple #[vo, .nilIface]/\DR 18 MsR D' vo [tellOf c.l c.id a])/\CpS D' v c' s'/\Inv w0 D' (s'::ss) w'):=by
 have em:askOf a 0 (st0 false) z c.id={kind:=13,from_:=a,to_:=c.id,seq:=1}:=askOf_blank rfl;rw [em] at hm;have T:=CHandle I hc hw hm (hMsg_ok (by show (1:Int)<=13/\(13:Int)<=15;decide) ⟨ha.1,by show a<=63;omega⟩ ⟨hid.1,by show c.id<=63;omega⟩ rfl rfl rfl rfl (by show (0:Int)<=0/\(0:Int)<=1000;decide) rfl (by show (0:Int)<=1/\(1:Int)<=1000;decide) rfl IsH.nil (Nat.zero_le _) rfl rfl) rfl rfl IsH.nil rfl (by show (13:Int)≠14;decide)
  (Q:=fun l' x=>l'=c.l/\x={kind:=14,recs:=c.l}) fun L hL e=> ?_
 ·refine T.mono fun _ _ h=>h.imp fun r w ⟨D',c',s',hD,⟨vo,x,l',h1,h2,h3,h4,h5⟩,h6,h7⟩=> ?_;subst h4;subst h5;exact ⟨D',c',s',hD,⟨h1,vo,h2,by rw [Ms.sent_of (by show (14:Int)≠0;decide)] at h3;exact h3⟩,h6,h7⟩
 refine ⟨_,L,fun I hL2 hm hst=>AnsHydrate_spec I hL2 hL.good hm hst rfl,hL,e, ?_⟩;rw [hL.s,e]
def fillOf (l:List Rc) (id a:Int):Ms:={kind:=12,from_:=id,to_:=a,recs:=l}
theorem CAsk (I:Inv w0 D (s::ss) w) (hc:CpS D v c s) (hw:c.w=true) (hid:0<=c.id/\c.id<6) {a:Int} {z:Nat} (ha:0<=a/\a<6) (hz:z<=16) {vm:Value} (hm:MsV D vm (askOf a 0 (st0 true) z c.id)) :
  Calls Tryz.prog 12 #[v,vm] w (Ret fun r w'=> ∃D' c' s',Le D D'/\(c'=c/\ ∃vo,r= .tuple #[vo, .nilIface]/\DR 18 MsR D' vo (if (abv z c.l).length=0 then [] else [fillOf (abv z c.l) c.id a]))/\CpS D' v c' s'/\Inv w0 D' (s'::ss) w'):=by
 have em:askOf a 0 (st0 true) z c.id={kind:=11,from_:=a,to_:=c.id,lsn:=z}:=askOf_whole rfl;rw [em] at hm;have T:=CHandle I hc hw hm (hMsg_ok (by show (1:Int)<=11/\(11:Int)<=15;decide) ⟨ha.1,by show a<=63;omega⟩ ⟨hid.1,by show c.id<=63;omega⟩ rfl rfl rfl rfl (by show (0:Int)<=z/\(z:Int)<=1000;omega) rfl (by show (0:Int)<=0/\(0:Int)<=1000;decide) rfl IsH.nil (Nat.zero_le _) rfl rfl) rfl rfl IsH.nil rfl (by show (11:Int)≠14;decide)
  (Q:=fun l' x=>l'=c.l/\x=if (abv z c.l).length=0 then {} else {kind:=12,recs:=abv z c.l}) fun L hL e=> ?_
 ·refine T.mono fun _ _ h=>h.imp fun r w ⟨D',c',s',hD,⟨vo,x,l',h1,h2,h3,h4,h5⟩,h6,h7⟩=> ?_;subst h4;subst h5;refine ⟨D',c',s',hD,⟨h1,vo,h2, ?_⟩,h6,h7⟩;split at h3
  ·rename_i q;rw [if_pos q];rw [Ms.sent_none (by rfl)] at h3;exact h3
  rename_i q;rw [if_neg q];rw [Ms.sent_of (by show (12:Int)≠0;decide)] at h3;exact h3
 by_cases q:(abv z c.l).length=0
 ·exact ⟨{},L,fun I hL2 hm hst=>AnsAskNo_spec I hL2 hL.good hm hst rfl (by rw [hL.s]) (by rw [e];exact q),hL,e,(if_pos q).symm⟩
 refine ⟨_,L,fun I hL2 hm hst=>AnsAsk_spec I hL2 hL.good hm hst rfl (by rw [hL.s]) (by rw [e];exact q),hL,e, ?_⟩;rw [if_neg q,e]
theorem CFill (I:Inv w0 D (s::ss) w) (hc:CpS D v c s) (hw:c.w=true) (hid:0<=c.id/\c.id<6) {b:Int} (hb:0<=b/\b<6) {rs:List Rc} (hH:IsH rs) (hl8:rs.length<=8) {vm:Value} (hm:MsV D vm (fillOf rs b c.id)) :
  Calls Tryz.prog 12 #[v,vm] w (Ret fun r w'=> ∃D' c' s',Le D D'/\(∃vo l',c'={c with l:=l'}/\r= .tuple #[vo, .nilIface]/\ ∀r,r∈l'↔r∈c.l\/r∈rs)/\CpS D' v c' s'/\Inv w0 D' (s'::ss) w'):=by
 have T:=CHandle I hc hw hm (hMsg_ok (by show (1:Int)<=12/\(12:Int)<=15;decide) ⟨hb.1,by show b<=63;omega⟩ ⟨hid.1,by show c.id<=63;omega⟩ rfl rfl rfl rfl (by show (0:Int)<=0/\(0:Int)<=1000;decide) rfl (by show (0:Int)<=0/\(0:Int)<=1000;decide) rfl hH (by show rs.length<=1000;omega) rfl rfl) rfl rfl hH rfl (by show (12:Int)≠14;decide)
  (Q:=fun l' _=> ∀r,r∈l'↔r∈c.l\/r∈rs) fun L hL e=> ?_
 ·refine T.mono fun _ _ h=>h.imp fun r w ⟨D',c',s',hD,⟨vo,x,l',h1,h2,_,h4⟩,h5,h6⟩=>⟨D',c',s',hD,⟨vo,l',h1,h2,h4⟩,h5,h6⟩
 obtain ⟨a1,a2⟩:=hL.add hH;obtain ⟨b1,b2,b3⟩:=hL.news hH;obtain ⟨c1,c2,c3,c4,c5⟩:=hL.h.all hH;refine ⟨_,_,fun I hL2 hm hst=>AnsFill_spec I hL2 hL.good hm hst rfl (by show rs.length<=16384;omega) c1 b3 (fun _=>hL.room) (by rw [hL.s];rfl),a1,fun r=> ?_⟩;rw [<-e];exact a2 r
theorem CTold (I:Inv w0 D (s::ss) w) (hc:CpS D v c s) (hw:c.w=false) (hid:0<=c.id/\c.id<6) {b:Int} (hb:0<=b/\b<6) {l:List Rc} (hH:IsH l) (hl:l.length<=16) {vm:Value} (hm:MsV D vm (tellOf l b c.id)) :
  Calls Tryz.prog 12 #[v,vm] w (Ret fun r w'=> ∃D' c' s',Le D D'/\(c'={c with U:=updT c.U b (tellOf l b c.id)}/\r= .tuple #[.slice none 0 0, .nilIface])/\CpS D' v c' s'/\Inv w0 D' (s'::ss) w'):=by
 obtain ⟨L,bs,vl,vd,bt,clk,es,mt,sl,rfl,rfl,hL,hmm,hU,hh,hl2⟩:=hc;rw [hw] at hh;have T:=HandleTold_spec (Inv.three.1 I) hL hmm hU hh.good.gd hm (hMsg_ok (by show (1:Int)<=14/\(14:Int)<=15;decide) ⟨hb.1,by show b<=63;omega⟩ ⟨hid.1,by show c.id<=63;omega⟩ rfl rfl rfl rfl (by show (0:Int)<=0/\(0:Int)<=1000;decide) rfl (by show (0:Int)<=1/\(1:Int)<=1000;decide) rfl hH (by show l.length<=1000;omega) rfl rfl) rfl rfl (fun x hx=>⟨(hH.num x hx).2.2.2.1,by rw [(hH.num x hx).2.2.2.2];exact Int.le_refl 0⟩) rfl (by rw [hh.s]) (by rw [hh.s];rfl) (Int.le_refl 0);refine T.mono fun _ _ h=>h.imp fun r w ⟨mt2,es2,clk2,D',sl',e,hD,hL',hm2,hU2,hI'⟩=> ?_;exact ⟨D',_,_,hD,⟨rfl,e⟩,⟨L,bs,vl,vd,bt,clk2,es2,mt2,sl',rfl,rfl,hL',hm2,hU2,by rw [hw];exact hh,hl2⟩,Inv.three.2 hI'⟩
theorem CState (I:Inv w0 D (s::ss) w) (hc:CpS D v c s) (b:Bool) (hb:c.w=b) :
  Calls Tryz.prog 17 #[v] w (Ret fun r w'=> ∃D' c' s',Le D D'/\(c'=c/\ ∃vsp,r= .agg #[.int .i64 0, .int .i64 0, .int .i64 1, .bool b, .int .i64 0,vsp])/\CpS D' v c' s'/\Inv w0 D' (s'::ss) w'):=by
 obtain ⟨L,bs,vl,vd,bt,clk,es,mt,sl,rfl,rfl,hL,hmm,hU,hh,hl2⟩:=hc;have T:=SStateH_spec (Inv.three.1 I) hL hh.good.gd;rw [hh.s,hb] at T;refine T.mono fun _ _ h=>h.imp fun r w ⟨vsp,D',e,hD,hL',hI'⟩=> ?_;exact ⟨D',c,_,hD,⟨rfl,vsp,e⟩,⟨L,bs,vl,vd,bt,clk,_,mt,sl,rfl,rfl,hL',hmm,hU.mono hD,hh,hl2⟩,Inv.three.2 hI'⟩
theorem CHot (I:Inv w0 D (s::ss) w) (hc:CpS D v c s) :
  Calls Tryz.prog 10 #[v] w (Ret fun r w'=> ∃D' s2 s',Le D D'/\(∃h,HtS D' r h s2/\HtI h/\h.l=c.l)/\CpS D' v c s'/\Inv w0 D' (s2::s'::ss) w'):=by
 obtain ⟨L,bs,vl,vd,bt,clk,es,mt,sl,rfl,rfl,hL,hmm,hU,hh,hl2⟩:=hc;have T:=SHot_spec (Inv.three.1 I) hL hh.good.gd;refine T.mono fun _ _ h=>h.imp fun r w ⟨D',s2,hH,hD,hL',hI'⟩=> ?_;exact ⟨D',s2,_,hD,⟨L.h,hH,hh.h,hl2⟩,⟨L,bs,vl,vd,bt,clk,_,mt,sl,rfl,rfl,hL',hmm,hU.mono hD,hh,hl2⟩,Inv.three1 hI'⟩
theorem CGet {h:Ht} (I:Inv w0 D (s::ss) w) (hh:HtS D v h s) (H:HtI h) (k:Nat) :
  Calls Tryz.prog 23 #[v, .int .i64 ((k:Int)+1)] w (Ret fun r w'=> ∃vr x D',r= .tuple #[vr, .bool (hasR h.l ((k:Int)+1))]/\Le D D'/\RcV D' vr x/\Inv w0 D' (s::ss) w'):=
 (HGet_spec I hh (by have:=H.isH.len H.rises;omega) H.rises ((k:Int)+1)).mono fun _ _ h=>h.imp fun r w ⟨vr,x,D',e,hD,hv,_,hI'⟩=>⟨vr,x,D',e,hD,hv,hI'⟩
theorem CScl {h:Ht} (I:Inv w0 D (s::ss) w) (hh:HtS D v h s) (H:HtI h) {n:Nat} (hn:Far h.l n) :
  Calls Tryz.prog 18 #[v] w (Ret fun r w'=> ∃s',r= .int .i64 (n:Nat)/\Inv w0 D (s'::ss) w'):=by
 have f:=H.fine;refine (SCL_spec I hh (by have:=f.len;omega) f.backs f.lt f.known).mono fun _ _ h=>h.imp fun r w ⟨z,s',e,hz,_,hI'⟩=>⟨s', ?_,hI'⟩;rw [e,(hn.chain H.isH).2 z hz]
theorem CBorn (I:Inv w0 D ss w) {ad:Nat->Addr} (hS:YSents D ad) {id:Int} (h0:0<=id) (h1:id<64) (b:Bool) :
  Calls Tryz.prog 7 #[.int .i64 id, .int .i64 0, .int .i64 1, .bool b] w (Ret fun r w'=> ∃bs vd D' s',r= .tuple #[.pointer (some ⟨bs,0,none⟩),vd]/\Le D D'/\CpS D' (.pointer (some ⟨bs,0,none⟩)) {id:=id,l:= [],w:=b,U:=fun _=>none} s'/\Inv w0 D' (s'::ss) w'):=by
 cases b with
 |true=>
  refine (bornW_spec I hS h0 h1 (by decide) (by decide) (inc:=1) (by decide) (by decide)).mono fun _ _ h=>h.imp fun r w ⟨bs,vl,bt,vd,D',sl,e,hD,hL,hI'⟩=> ?_;exact ⟨bs,vd,D',_,e,hD,⟨_,bs,vl,vd,bt,0,_, [],sl,rfl,rfl,hL,IntMap.empty,MapT.nil _,HlI.start true,rfl⟩,Inv.three.2 hI'⟩
 |false=>
  refine (bornB_spec I hS h0 h1 (by decide) (by decide) (inc:=1) (by decide) (by decide)).mono fun _ _ h=>h.imp fun r w ⟨bs,vl,bt,vd,D',sl,e,hD,hL,hI'⟩=> ?_;exact ⟨bs,vd,D',_,e,hD,⟨_,bs,vl,vd,bt,0,_, [],sl,rfl,rfl,hL,IntMap.empty,MapT.nil _,HlI.start false,rfl⟩,Inv.three.2 hI'⟩
end
structure TellOk (m:Ms):Prop where
 ep:m.epoch=0
 at_:m.at_=0
 lsn:m.lsn=0
 spans:m.spans= []
 isH:IsH m.recs
 len:m.recs.length<=16
theorem tell_ok {l:List Rc} (hH:IsH l) (hl:l.length<=16) (b a:Int):TellOk (tellOf l b a):=⟨rfl,rfl,rfl,rfl,hH,hl⟩
theorem unS_tells {ms:List Ms} (h: ∀m∈ms,TellOk m):(unS ms).promise=0/\(unS ms).floor=0/\(unS ms).installed=0/\(unS ms).spans= []:=by
 have key: ∀(ms:List Ms) (u:Un),(∀m∈ms,TellOk m)->(u.promise=0/\u.floor=0/\u.installed=0/\u.spans= [])->((ms.foldl Un.step u).promise=0/\(ms.foldl Un.step u).floor=0/\(ms.foldl Un.step u).installed=0/\(ms.foldl Un.step u).spans= []):=by
  intro ms;induction ms with
  |nil=>intro u _ h;exact h
  |cons m ms ih=>
   intro u hm ⟨h1,h2,h3,h4⟩;have hk:=hm m (by simp);refine ih _ (fun x hx=>hm x (by simp [hx])) ⟨?_, ?_, ?_, ?_⟩
   ·show max u.promise m.epoch=0;rw [h1,hk.ep];rfl
   ·show max u.floor m.lsn=0;rw [h2,hk.lsn];rfl
   ·show (if u.best<m.at_ then m.at_ else u.installed)=0;split
    ·exact hk.at_
    exact h3
   show (if u.best<m.at_ then m.spans else u.spans)= [];split
   ·exact hk.spans
   exact h4
 exact key ms {} h ⟨rfl,rfl,rfl,rfl⟩
theorem stepU_H {A:List Rc} {U:Int->Option Rc} (hA:IsH A) (hU: ∀k x,U k=some x↔x∈A/\x.lsn=k) {j:Nat} (hj:j<16): ∀k x,stepU [] U (hRec j) k=some x↔x∈A++ [hRec j]/\x.lsn=k:=by
 intro k x;cases hu:U (hRec j).lsn with
 |some y=>
  obtain ⟨h1,h2⟩:=(hU _ _).1 hu;have e:y=hRec j:=hA.eq (y:=y) h1 h2;rw [stepU_old (x:=y) rfl hu (by rw [e];exact Int.le_refl _),hU k x,List.mem_append,List.mem_singleton];constructor
  ·rintro ⟨a,b⟩;exact ⟨.inl a,b⟩
  rintro ⟨a|a,b⟩
  ·exact ⟨a,b⟩
  rw [a,<-e];exact ⟨h1,by rw [e,<-a];exact b⟩
 |none=>
  rw [stepU_none rfl hu];unfold updU;rw [List.mem_append,List.mem_singleton];split
  ·rename_i e;subst e;constructor
   ·intro q;obtain rfl:hRec j=x:=by simpa using q
    exact ⟨.inr rfl,rfl⟩
   rintro ⟨a|a,b⟩
   ·have:=(hU _ x).2 ⟨a,b⟩;rw [hu] at this;cases this
   rw [a]
  rename_i e;rw [hU k x];constructor
  ·rintro ⟨a,b⟩;exact ⟨.inl a,b⟩
  rintro ⟨a|a,b⟩
  ·exact ⟨a,b⟩
  subst a;exact absurd b.symm e
theorem foldU_H: ∀{rs A:List Rc} {U:Int->Option Rc},IsH A->IsH rs->(∀k x,U k=some x↔x∈A/\x.lsn=k)-> ∀k x,rs.foldl (stepU []) U k=some x↔x∈A++rs/\x.lsn=k
 | [],A,U,_,_,h,k,x=>by rw [List.append_nil];exact h k x
 |r::rs,A,U,hA,hr,h,k,x=>by
  obtain ⟨j,hj,rfl⟩:=hr r (by simp);have hA2:IsH (A++ [hRec j]):=fun y hy=>by
   rcases List.mem_append.1 hy with q|q
   ·exact hA y q
   exact ⟨j,hj,List.mem_singleton.1 q⟩
  have:=foldU_H (rs:=rs) hA2 (fun y hy=>hr y (by simp [hy])) (stepU_H hA h hj) k x;rw [List.append_assoc] at this;exact this
theorem union_H {ms:List Ms} (h: ∀m∈ms,TellOk m): ∀k x,unionU [] ms k=some x↔x∈ms.flatMap (·.recs)/\x.lsn=k:=by
 have hH:IsH (ms.flatMap (·.recs)):=fun r hr=>by
  obtain ⟨m,hm,hr⟩:=List.mem_flatMap.1 hr;exact (h m hm).isH r hr
 have:=foldU_H (A:= []) (U:=fun _=>none) IsH.nil hH (fun k x=>⟨fun q=>(by cases q),fun q=>(by cases q.1)⟩);exact this
theorem vals_H {ms:List Ms} (h: ∀m∈ms,TellOk m) {zs:List Rc} (hz:ValsOf (unionU [] ms) zs):IsH zs/\(∀r,r∈zs↔ ∃m∈ms,r∈m.recs)/\(zs.map (·.lsn)).Nodup/\zs.length<=16:=by
 have hU:=union_H h;have hm: ∀r,r∈zs↔ ∃m∈ms,r∈m.recs:=fun r=>by
  constructor
  ·intro q;exact List.mem_flatMap.1 ((hU _ _).1 (hz.sound r q)).1
  intro q;exact hz.full _ _ ((hU r.lsn r).2 ⟨List.mem_flatMap.2 q,rfl⟩)
 have hH:IsH zs:=fun r hr=>by
  obtain ⟨m,h1,h2⟩:=(hm r).1 hr;exact (h m h1).isH r h2
 refine ⟨hH,hm,hz.nd, ?_⟩;obtain ⟨a1,a2,a3,a4,a5⟩:=HtI.start.all hH;rw [HtI.start.news_nd hH hz.nd (fun r _ q=>by cases q)] at a4;have:=a2.isH.len a2.rises;have:([]:List Rc).length=0:=rfl;omega
theorem flat_len: ∀{ms:List Ms},(∀m∈ms,TellOk m)->(ms.flatMap (·.recs)).length<=16*ms.length
 | [],_=>by simp
 |m::ms,h=>by
  have a:=flat_len (ms:=ms) (fun x hx=>h x (by simp [hx]));have b:=(h m (by simp)).len;rw [List.flatMap_cons,List.length_append,List.length_cons];omega
theorem CTickY {w0 w:World} {D:Sto} {ss:List Seg} {s:Seg} {v:Value} {c:Cp} (I:Inv w0 D (s::ss) w) (hc:CpS D v c s) (hw:c.w=false) (hl0:c.l= []) {vc:Value} {x:Cf} (hcf:CfV D vc x) (hs6:x.Six) (hyes:3<=(toldOf c.U x.old).length) (hok: ∀m∈toldOf c.U x.old,TellOk m) :
  Calls Tryz.prog 22 #[v,vc] w (Ret fun r w'=> ∃D' c' s',Le D D'/\((∃l' U',c'={c with l:=l',w:=true,U:=U'}/\ ∀r,r∈l'↔ ∃m∈toldOf c.U x.old,r∈m.recs)/\ ∃vo,r= .tuple #[vo, .nilIface])/\CpS D' v c' s'/\Inv w0 D' (s'::ss) w'):=by
 obtain ⟨L,bs,vl,vd,bt,clk,es,mt,sl,rfl,rfl,hL,hm,hU,hh,hl⟩:=hc;rw [hw] at hh;rw [hl0] at hl;obtain ⟨e1,e2,e3,e4⟩:=unS_tells hok;have hcutI:=hh.h.cut;have hle:=told_le c.U x.old;have hl6:=hs6.six;have T:=TickY_spec (Inv.three.1 I) hL hm hU hcf hs6 hh.good.gd hyes hh.good (by rw [hh.s]) (by rw [hh.s];show (1:Int)≠0;decide) ⟨hh.cuts.1,Int.le_trans hh.cuts.2 (by decide)⟩ hh.room (fun m hm=>by rw [(hok m hm).spans];exact Nat.zero_le _) (Nat.le_trans (flat_len hok) (by omega)) (by rw [e4];exact spansOk.nil) (by rw [e1];decide) (by rw [e3];decide) (by rw [e2];decide);rw [e1,e2,e3,e4] at T;have T2:=T (fun zs hz=>by
  obtain ⟨z1,z2,z3,z4⟩:=vals_H hok hz;obtain ⟨a1,a2,a3,a4,a5⟩:=hcutI.1.all z1;have a6:=a2.isH.len a2.rises;have hnw:IsH ((L.h.cut []).news zs):=z1.sub fun r q=>Ht.news_mem q;exact ⟨by omega,a1,fun r hr=>⟨z1.valid r hr,by rw [(z1.num r hr).2.2.2.1,hh.h.gr]⟩,call_len ⟨(by decide:(0:Int)<=5),(by decide:(5:Int)<64)⟩ rfl rfl rfl rfl rfl hnw (by show ((L.h.cut []).news zs).length<=16;omega)⟩) (fun zs hz=>by
  obtain ⟨z1,z2,z3,z4⟩:=vals_H hok hz;obtain ⟨a1,a2,a3,a4,a5⟩:=hcutI.1.all z1;obtain ⟨n,hn⟩:=a2.isH.far;exact ⟨a2.fine,n,hn.chain a2.isH⟩)
 refine T2.mono fun _ _ h=>h.imp fun r w ⟨vo,zs,z,L',bt',sl',D',e,hD,hR,hz,hor,hch,hL',hI'⟩=> ?_;obtain ⟨z1,z2,z3,z4⟩:=vals_H hok hz;obtain ⟨a1,a2,a3,a4,a5⟩:=hcutI.1.all z1;have a6:=a2.isH.len a2.rises;have hl': ∀r,r∈((L.h.cut []).addAll zs).l↔ ∃m∈toldOf c.U x.old,r∈m.recs:=fun r=>by
  rw [a3 r,hcutI.2.1,hl];exact ⟨fun q=>q.elim (fun q=>by cases q) (z2 r).1,fun q=> .inr ((z2 r).2 q)⟩
 have hN:HlI (L.hyd {promise:=0,installed:=0,floor:=0,spans:= []} zs) true:=by
  have hcal:=hh.calls;have hcu:=hh.cuts;rw [hl] at hcal;have hc2:L.calls<=2:=hcal;have e5:((L.h.cut []).addAll zs).cuts=L.h.cuts+1:=by rw [a5,hcutI.2.2]
  refine ⟨hh.good.laid (by omega) ⟨by show ([]:List Sp).length<=64;decide,by rw [a2.spans];decide⟩ (by show ((L.h.cut []).addAll zs).l.length<=16384;omega) hh.arm,by show tick (tick L.d.arm)=0;rw [hh.arm];rfl,hh.blocks, ?_, ?_, ?_,a2⟩
  ·show ({promise:=0,installed:=0,inc:=L.s.inc,whole:=true,floor:=0,spans:= []}:Stt)={inc:=1,whole:=true};rw [hh.s]
  ·show 0<=((L.h.cut []).addAll zs).cuts/\((L.h.cut []).addAll zs).cuts<=1;rw [e5];have:L.h.cuts<=0:=hcu.2;omega
  show L.calls+1<=3+((L.h.cut []).addAll zs).l.length;omega
 refine ⟨D',{c with l:=((L.h.cut []).addAll zs).l,w:=true,U:=fun _=>none},_,hD,⟨⟨_,_,rfl,hl'⟩,vo,e⟩,⟨L',bs,vl,vd,bt',0,_, [],sl',rfl,rfl,hL',IntMap.empty,MapT.nil _, ?_, ?_⟩,Inv.three.2 hI'⟩
 ·rcases hor with rfl|rfl
  ·exact hN
  exact hN.scl hch
 rcases hor with rfl|rfl<;>rfl
end Go.Proofs.YtikllmoofngjnaaGreatDoor.B
