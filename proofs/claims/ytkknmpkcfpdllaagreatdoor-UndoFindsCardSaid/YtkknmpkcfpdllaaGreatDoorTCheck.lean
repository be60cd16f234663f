/- What functions of the program compute, each function once: steps over the model, and the plain law of it. -/
import Derived.Test.YtkknmpkcfpdllaaGreatDoorTTree6
import Derived.Test.YtkknmpkcfpdllaaGreatDoorTFacts
import Derived.Laws.BytesString
namespace Go.Proofs.YtkknmpkcfpdllaaGreatDoor.B
open Go Go.Proofs
set_option linter.unusedVariables false
set_option linter.unusedSimpArgs false
set_option maxRecDepth 20000
set_option maxHeartbeats 8000000
theorem refBytes_data {w0 w:World} {D:Sto} {ss:List Seg} (hI:Inv w0 D ss w) {vb:Value} {bs:List Nat} (hb:RB D vb bs) (hm:bs.length≤140737488355000) :
  Calls Tryz.prog 114 #[vb] w (Ret fun r w'=> ∃D',Le D D'∧Inv w0 D' ss w'∧RB D' r bs):=
 (refBytes_spec hI hb hm).mono fun _ _ h=>h.imp fun _ _ h=>OB.data h hb.lt
theorem laidP_at {P:Pl} {l:List Rc} {i:Nat} {m:Int} {x:Rc} (hx:l[i]? =some x):laidP P (l.drop i) m=if validR {x with lsn:=m}=false then none else match P.apply {x with lsn:=m} with
  |none=>none
  |some P=>laidP P (l.drop (i+1)) (m+1):=by
 obtain ⟨h1,h2⟩:=List.getElem?_eq_some_iff.1 hx;rw [List.drop_eq_getElem_cons h1,h2,laidP];split
 ·rfl
 cases P.apply {x with lsn:=m}<;>rfl
def E0:Pl:=((laidP Pl.empty makeR 1).getD (Pl.empty,0)).1
theorem E0_laid:laidP Pl.empty makeR 1=some (E0,4):=by
 have h:(laidP Pl.empty makeR 1).map (·.2)=some 4:=by decide+kernel
 obtain ⟨⟨P,n⟩,h1,h2⟩:=Option.map_eq_some_iff.1 h;have h3:n=4:=h2;subst h3;rw [E0,h1];rfl
theorem refRedo_spec {w0 w:World} {D:Sto} {ss:List Seg} (hI:Inv w0 D ss w) {vr:Value} {rc:Rc} (hr:RcV D vr rc) :
  Calls Tryz.prog 62 #[vr] w (Ret fun r w'=> ∃D',Le D D'∧Inv w0 D' ss w'∧RcV D' r rc):=by
 obtain ⟨k1,v2,rfl,hk3,hv4,ho5⟩:=hr;obtain ⟨A6,c7,rfl,_⟩:=hk3.slice;obtain ⟨A8,c9,rfl,_⟩:=hv4.slice;refine enter (N:=26) Tryz.func62 rfl rfl rfl ?_;intro a hE;refine wsr ?_;refine l_step rfl (f_box (cs:= #[_,_,_,_,_,_,_,_,_,_]) hE hI rfl rfl rfl rfl rfl ?_);clear hI hE a w;intro a b10 w hE hI;refine l_step rfl (f_alloc (cs:= #[.int .i64 0, .int .i64 0, .int .i64 0, .int .i64 0, .int .i64 0, .int .i64 0, .int .i64 0, .slice none 0 0, .slice none 0 0, .bool false]) hE hI rfl rfl rfl zer_124 rfl ?_);clear hI hE a w;intro a b11 w hE hI;refine wnt ?_;refine wp_seq ?_;refine d_start [23] [] (by kernel_rfl) hI rfl rfl ?_;clear hI w;intro w hI;refine dp 0 hE rfl (p_fieldAddr (m:=0) rfl fo_124_0 rfl) (fun _=>hI) (listed':= #[true,false,false,false,false,false,false,false,false,false,false,false,false,false,false,false,false,false,false,false,false,false,false,false]) ?_;clear hE a;intro a hE;refine dl 1 hE rfl (fun w hS=>f_load rfl scal_2 (Inv.seg 1 hS rfl) rfl) (hI) ?_;clear hE a;intro a hE;refine dp 2 hE rfl (p_fieldAddr (m:=1) rfl fo_124_1 rfl) (fun _=>hI) ?_;clear hE a;intro a hE;refine dl 3 hE rfl (fun w hS=>f_load rfl scal_2 (Inv.seg 1 hS rfl) rfl) (hI) ?_;clear hE a;intro a hE;refine dp 4 hE rfl (p_fieldAddr (m:=2) rfl fo_124_2 rfl) (fun _=>hI) ?_;clear hE a;intro a hE;refine dl 5 hE rfl (fun w hS=>f_load rfl scal_3 (Inv.seg 1 hS rfl) rfl) (hI) ?_;clear hE a;intro a hE;refine dp 6 hE rfl (p_fieldAddr (m:=3) rfl fo_124_3 rfl) (fun _=>hI) ?_;clear hE a;intro a hE;refine dl 7 hE rfl (fun w hS=>f_load rfl scal_3 (Inv.seg 1 hS rfl) rfl) (hI) ?_;clear hE a;intro a hE;refine dp 8 hE rfl (p_fieldAddr (m:=4) rfl fo_124_4 rfl) (fun _=>hI) ?_;clear hE a;intro a hE;refine dl 9 hE rfl (fun w hS=>f_load rfl scal_3 (Inv.seg 1 hS rfl) rfl) (hI) ?_;clear hE a;intro a hE;refine dp 10 hE rfl (p_fieldAddr (m:=5) rfl fo_124_5 rfl) (fun _=>hI) ?_;clear hE a;intro a hE;refine dl 11 hE rfl (fun w hS=>f_load rfl scal_3 (Inv.seg 1 hS rfl) rfl) (hI) ?_;clear hE a;intro a hE;refine dp 12 hE rfl (p_fieldAddr (m:=6) rfl fo_124_6 rfl) (fun _=>hI) ?_;clear hE a;intro a hE;refine dl 13 hE rfl (fun w hS=>f_load rfl scal_3 (Inv.seg 1 hS rfl) rfl) (hI) ?_;clear hE a;intro a hE;refine dp 14 hE rfl (p_fieldAddr (m:=7) rfl fo_124_7 rfl) (fun _=>hI) ?_;clear hE a;intro a hE;refine dl 15 hE rfl (fun w hS=>f_load rfl scal_33 (Inv.seg 1 hS rfl) rfl) (hI) ?_;clear hE a;intro a hE;refine dp 17 hE rfl (p_fieldAddr (m:=8) rfl fo_124_8 rfl) (fun _=>hI) ?_;clear hE a;intro a hE;refine dl 18 hE rfl (fun w hS=>f_load rfl scal_33 (Inv.seg 1 hS rfl) rfl) (hI) ?_;clear hE a;intro a hE;refine dp 20 hE rfl (p_fieldAddr (m:=9) rfl fo_124_9 rfl) (fun _=>hI) ?_;clear hE a;intro a hE;refine dl 21 hE rfl (fun w hS=>f_load rfl scal_4 (Inv.seg 1 hS rfl) rfl) (hI) ?_;clear hE a;intro a hE;refine do1 16 hE rfl ?_;refine o_call hE rfl rfl rfl rfl ent_114 (refBytes_data (bs:=rc.key) hI hk3 (by have:=ho5.k;have:=ho5.v;omega)) ?_;clear hI hE a;rintro r w ⟨D12,hD13,hI,hb14⟩ a hE;obtain ⟨A15,c16,rfl,_⟩:=hb14.slice;refine ⟨fun _=>(Inv.weaken hI hD13), ?_⟩;refine do1 19 hE rfl ?_;refine o_call hE rfl rfl rfl rfl ent_114 (refBytes_data (bs:=rc.val) hI (hv4.mono hD13) (by have:=ho5.k;have:=ho5.v;omega)) ?_;clear hI hE a;rintro r w ⟨D17,hD18,hI,hb19⟩ a hE;obtain ⟨A20,c21,rfl,_⟩:=hb19.slice;refine ⟨fun _=>(Inv.weaken hI (hD13.trans hD18)), ?_⟩;refine dp 22 hE rfl (f_build (vs:= [(0,_),(1,_),(2,_),(3,_),(4,_),(5,_),(6,_),(7,_),(8,_),(9,_)]) (l:= [_,_,_,_,_,_,_,_,_,_]) rfl built_124 rfl) (fun _=>(Inv.weaken hI (hD13.trans hD18))) ?_;clear hE a;intro a hE;refine do1 23 hE rfl ?_;refine f_store (l:= [_,_,_,_,_,_,_,_,_,_]) (ss':=_::_) 0 hE hI rfl rfl rfl rfl rfl sz_124 (by simp [Value.cells,Value.oneCell',pgCells,rcCells,zPg]) rfl rfl rfl ?_;clear hI w;intro w hI;refine ⟨nl, ?_⟩;refine d_done (by kernel_rfl) ?_;refine gc 2 hE ?_;refine retc1 rfl hE rfl agg_124 (hI.seg 0 rfl) rfl ?_;exact ⟨_,(hD13.trans hD18),hI.drop.drop,⟨_,_,rfl,(hb14.mono hD18),hb19,ho5⟩⟩
theorem Make_spec {w0 w:World} {D:Sto} {ss:List Seg} (hI:Inv w0 D ss w) :
  Calls Tryz.prog 16 #[] w (Ret fun r w'=> ∃D',Le D D'∧Inv w0 D' ss w'∧DR 10 RcR D' r makeR):=by
 refine enter (N:=7) Tryz.func16 rfl rfl rfl ?_;intro a hE;refine go 4 hE hI ?_;clear hE a;intro a hE;refine zs hE (f_build (vs:= [(4,_),(5,_)]) (l:= [_,_,_,_,_,_,_,_,_,_]) rfl built_124 rfl) ?_;clear hE a;intro a hE;refine zs hE (f_build (vs:= [(4,_),(5,_)]) (l:= [_,_,_,_,_,_,_,_,_,_]) rfl built_124 rfl) ?_;clear hE a;intro a hE;refine l_step rfl (o_call hE rfl rfl rfl rfl ent_64 (name_spec hI) ?_);clear hI hE a;rintro r w ⟨D1,hD2,hI,hb3⟩ a hE;obtain ⟨A4,c5,rfl,_⟩:=hb3.slice;refine l_step rfl (o_call hE rfl rfl rfl rfl ent_65 (counts_spec hI 2 0) ?_);clear hI hE a;rintro r w ⟨D6,hD7,hI,hb8⟩ a hE;obtain ⟨A9,c10,rfl,_⟩:=hb8.slice;refine zs hE (f_build (vs:= [(4,_),(5,_),(7,_),(8,_)]) (l:= [_,_,_,_,_,_,_,_,_,_]) rfl built_124 rfl) ?_;clear hE a;intro a hE;refine l_step rfl (f_lit (vs:= [(0,_),(1,_),(2,_)]) (l:= [_,_,_,_,_,_,_,_,_,_,_,_,_,_,_,_,_,_,_,_,_,_,_,_,_,_,_,_,_,_]) hE hI rfl rfl rfl rfl Tryz.underlying29 zs_124 rfl rfl rfl ?_);clear hI hE a w;intro a b11 w hE hI;refine go 3 hE hI ?_;clear hE a;intro a hE;refine ret1 rfl hE rfl ?_;have hr1:RcR D6 _ ({page:=0,kind:=1}:Rc):=⟨_,_,rfl,RB.nil _,RB.nil _,ROk.of0 rfl (by simp) (by simp) (by simp) (by simp)⟩;have hr2:RcR D6 _ ({page:=1,kind:=1}:Rc):=⟨_,_,rfl,RB.nil _,RB.nil _,ROk.of0 rfl (by simp) (by simp) (by simp) (by simp)⟩;have hr3:RcR D6 _ ({page:=1,kind:=2,key:= [110],val:=twoB 2++twoB 0}:Rc):=⟨_,_,rfl,(hb3.mono hD7),hb8,ROk.of0 rfl (by simp) (by simp) (by simp) (by simp [twoB])⟩;obtain ⟨D9,hDz,hIa,hL⟩:=DR.lits (n:=3) (l:= [{page:=0,kind:=1},{page:=1,kind:=1},{page:=1,kind:=2,key:= [110],val:=twoB 2++twoB 0}]) 0 hI rfl rfl rfl (by omega) (At.lit3 (size:=10) (by rfl) (by rfl) (by rfl) hr1 hr2 hr3);exact ⟨D9,(hD2.trans hD7).trans hDz,hIa,hL⟩
section
variable {P:Program} {ops:Array Oper} {Q:Exit→Act→World→Prop} {a:Act} {w0 w w':World} {D:Sto} {ss:List Seg} {o:Oper} {N:Nat} {env:Env} {K:Act→World→Prop}
def strOf (bs:List Nat):ByteArray:=(bs.map (fun x=>((x:Nat):Int))).foldl (fun r n=>r.push (UInt8.ofNat n.toNat)) ByteArray.empty
theorem r_toString {src dst e:TypeId} {x:Operand} {v:Value} {bs:List Nat} (hI:Inv w0 D ss w) (hx:ev env x=some v) (hr:RB D v bs) (hs:P.underlying src=some (.slice e)) (he:P.underlying e=some (.int .u8)) (hd:P.underlying dst=some .string) :
  RunOp P env w (.convert src dst x) (.string (strOf bs)):=fun _ a o hE ho=>by
 obtain ⟨A,c,rfl,hc,hlt,hA,hat⟩:=hr;have h1:=run_convert_bytes_string (P:=P) w src dst e A bs.length c hs he hd;have h2:(Conv.bytesToString (.slice A bs.length c)).run P w= .ok (.string (strOf bs)) w:=by
  cases bs with
  |nil=>
   cases A with
   |none=>rfl
   |some ad=>
    have:=run_bytesToString (P:=P) w ad 0 c [] (by simpa using run_loadCells_list (P:=P) w ad [] (by simp));simpa [strOf] using this
  |cons y r=>
   obtain ⟨b,off,cs,T,fr,rfl,h7,h8⟩:=hat (by simp);have hld:=run_loadCells_list (P:=P) w ⟨b,off,none⟩ (((y::r).map (fun x=>((x:Nat):Int))).map (Value.int .u8)) (fun j u hu=>by
    rw [addr_add,cell_of (hI.data _ _ h7)];simp only [List.map_map,List.getElem?_map,Option.map_eq_some_iff] at hu;obtain ⟨z,hz,rfl⟩:=hu;exact h8 j z hz)
   simp only [List.length_map] at hld;exact run_bytesToString (P:=P) w ⟨b,off,none⟩ _ c _ hld
 simp [execOp,ho,hE.eval hx,h1,h2]
theorem p_strEql {t t':TypeId} {x y:Operand} {s u:ByteArray} {e:Bool} (hx:ev env x=some (.string s)) (hy:ev env y=some (.string u)) (he:(s.toList==u.toList)=e):PureOp P env (.binOp .eql t x y t') (.bool e):=fun _ a w o hE ho=>by
 have h1:=hE.eval hx;have h2:=hE.eval hy;subst he;simp [execOp,ho,h1,h2,eqGuard,binOp,Op.stringOp,Sem.run]
end
theorem TreeS.ptr {D:Sto} {vb vp:Value} {b:Bt} {P:Pl} {s:Seg} (h:TreeS D vb vp b P s): ∃bb,vb= .pointer (some ⟨bb,0,none⟩):=by obtain ⟨sb,sp,_,⟨bb,bo,es,clk,m,vr,sr,h1,_⟩,_⟩:=h;exact ⟨bb,h1⟩
theorem Inv.merge {w0 w:World} {D:Sto} {ss:List Seg} {s1 s2:Seg} (h:Inv w0 D (s1::s2::ss) w):Inv w0 D ((s1++s2)::ss) w:=h.perm (List.Perm.of_eq (by simp))
theorem Inv.right {w0 w:World} {D:Sto} {ss:List Seg} {s1 s2:Seg} (h:Inv w0 D ((s1++s2)::ss) w):Inv w0 D (s2::ss) w:=
 (h.perm (ss':=s1::s2::ss) (List.Perm.of_eq (by simp))).drop
theorem TreeS.join {D:Sto} {vb vp:Value} {b:Bt} {P:Pl} {sb sp:Seg} (h:BatchS D vb vp b sb) (k:PoolS D vp P sp) (hp:b.pool=P.f):TreeS D vb vp b P (sb++sp):=⟨sb,sp,rfl,h,k,hp⟩
theorem BatchS.ptr {D:Sto} {vb vp:Value} {b:Bt} {s:Seg} (h:BatchS D vb vp b s): ∃bb,vb= .pointer (some ⟨bb,0,none⟩):=by obtain ⟨bb,bo,es,clk,m,vr,sr,h1,_⟩:=h;exact ⟨bb,h1⟩
end Go.Proofs.YtkknmpkcfpdllaaGreatDoor.B
