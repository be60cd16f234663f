/- What functions of the program compute, each function once: steps over the model, and the plain law of it. -/
import Derived.Test.YtkknmpkcfpdllaaDoorTTree6
import Derived.Test.YtkknmpkcfpdllaaDoorTFacts
import Derived.Laws.BytesString
namespace Go.Proofs.YtkknmpkcfpdllaaDoor.B
open Go Go.Proofs
set_option linter.unusedVariables false
set_option linter.unusedSimpArgs false
set_option maxRecDepth 20000
set_option maxHeartbeats 8000000
theorem refBytes_data {w0 w:World} {D:Sto} {ss:List Seg} (I:Inv w0 D ss w) {vb:Value} {bs:List Nat} (hb:RB D vb bs) (hm:bs.length<=140737488355000) :
  Calls Tryd.prog 55 #[vb] w (Ret fun r w'=> ∃D',Le D D'/\Inv w0 D' ss w'/\RB D' r bs):=
 (refBytes_spec I hb hm).mono fun _ _ h=>h.imp fun _ _ h=>OB.data h hb.lt
def E0:Pl:=((laidP Pl.empty makeR 1).getD (Pl.empty,0)).1
theorem E0_laid:laidP Pl.empty makeR 1=some (E0,4):=by
 have h:(laidP Pl.empty makeR 1).map (·.2)=some 4:=by decide+kernel
 obtain ⟨⟨P,n⟩,h1,h2⟩:=Option.map_eq_some_iff.1 h;have h3:n=4:=h2;subst h3;rw [E0,h1];rfl
theorem refRedo_spec {w0 w:World} {D:Sto} {ss:List Seg} (I:Inv w0 D ss w) {vr:Value} {rc:Rc} (hr:RcV D vr rc) :
  Calls Tryd.prog 45 #[vr] w (Ret fun r w'=> ∃D',Le D D'/\Inv w0 D' ss w'/\RcV D' r rc):=by
 obtain ⟨k1,v2,rfl,hk3,hv4,ho5⟩:=hr;obtain ⟨A6,c7,rfl,_⟩:=hk3.slice;obtain ⟨A8,c9,rfl,_⟩:=hv4.slice;refine enter (N:=26) Tryd.func45 rfl rfl rfl ?_;intro a Z;refine wsr ?_;refine l_step rfl (f_box (cs:= #[_,_,_,_,_,_,_,_,_,_]) Z I rfl rfl rfl rfl rfl ?_);clear I Z a w;intro a b10 w Z I;refine l_step rfl (f_alloc (cs:= #[.int .i64 0, .int .i64 0, .int .i64 0, .int .i64 0, .int .i64 0, .int .i64 0, .int .i64 0, .slice none 0 0, .slice none 0 0, .bool false]) Z I rfl rfl rfl zer_68 rfl ?_);clear I Z a w;intro a b11 w Z I;refine wnt ?_;refine wp_seq ?_;refine d_start [23] [] (by kernel_rfl) I rfl rfl ?_;clear I w;intro w I;refine dp 0 Z rfl (p_fieldAddr (m:=0) rfl fo_68_0 rfl) (fun _=>I) (listed':= #[true,false,false,false,false,false,false,false,false,false,false,false,false,false,false,false,false,false,false,false,false,false,false,false]) ?_;clear Z a;intro a Z;refine dl 1 Z rfl (fun w hS=>f_load rfl scal_2 (Inv.seg 1 hS rfl) rfl) (I) ?_;clear Z a;intro a Z;refine dp 2 Z rfl (p_fieldAddr (m:=1) rfl fo_68_1 rfl) (fun _=>I) ?_;clear Z a;intro a Z;refine dl 3 Z rfl (fun w hS=>f_load rfl scal_2 (Inv.seg 1 hS rfl) rfl) (I) ?_;clear Z a;intro a Z;refine dp 4 Z rfl (p_fieldAddr (m:=2) rfl fo_68_2 rfl) (fun _=>I) ?_;clear Z a;intro a Z;refine dl 5 Z rfl (fun w hS=>f_load rfl scal_3 (Inv.seg 1 hS rfl) rfl) (I) ?_;clear Z a;intro a Z;refine dp 6 Z rfl (p_fieldAddr (m:=3) rfl fo_68_3 rfl) (fun _=>I) ?_;clear Z a;intro a Z;refine dl 7 Z rfl (fun w hS=>f_load rfl scal_3 (Inv.seg 1 hS rfl) rfl) (I) ?_;clear Z a;intro a Z;refine dp 8 Z rfl (p_fieldAddr (m:=4) rfl fo_68_4 rfl) (fun _=>I) ?_;clear Z a;intro a Z;refine dl 9 Z rfl (fun w hS=>f_load rfl scal_3 (Inv.seg 1 hS rfl) rfl) (I) ?_;clear Z a;intro a Z;refine dp 10 Z rfl (p_fieldAddr (m:=5) rfl fo_68_5 rfl) (fun _=>I) ?_;clear Z a;intro a Z;refine dl 11 Z rfl (fun w hS=>f_load rfl scal_3 (Inv.seg 1 hS rfl) rfl) (I) ?_;clear Z a;intro a Z;refine dp 12 Z rfl (p_fieldAddr (m:=6) rfl fo_68_6 rfl) (fun _=>I) ?_;clear Z a;intro a Z;refine dl 13 Z rfl (fun w hS=>f_load rfl scal_3 (Inv.seg 1 hS rfl) rfl) (I) ?_;clear Z a;intro a Z;refine dp 14 Z rfl (p_fieldAddr (m:=7) rfl fo_68_7 rfl) (fun _=>I) ?_;clear Z a;intro a Z;refine dl 15 Z rfl (fun w hS=>f_load rfl scal_34 (Inv.seg 1 hS rfl) rfl) (I) ?_;clear Z a;intro a Z;refine dp 17 Z rfl (p_fieldAddr (m:=8) rfl fo_68_8 rfl) (fun _=>I) ?_;clear Z a;intro a Z;refine dl 18 Z rfl (fun w hS=>f_load rfl scal_34 (Inv.seg 1 hS rfl) rfl) (I) ?_;clear Z a;intro a Z;refine dp 20 Z rfl (p_fieldAddr (m:=9) rfl fo_68_9 rfl) (fun _=>I) ?_;clear Z a;intro a Z;refine dl 21 Z rfl (fun w hS=>f_load rfl scal_4 (Inv.seg 1 hS rfl) rfl) (I) ?_;clear Z a;intro a Z;refine do1 16 Z rfl ?_;refine o_call Z rfl rfl rfl rfl ent_55 (refBytes_data (bs:=rc.key) I hk3 (by have:=ho5.k;have:=ho5.v;omega)) ?_;clear I Z a;rintro r w ⟨D12,hD13,I,hb14⟩ a Z;obtain ⟨A15,c16,rfl,_⟩:=hb14.slice;refine ⟨fun _=>(Inv.weaken I hD13), ?_⟩;refine do1 19 Z rfl ?_;refine o_call Z rfl rfl rfl rfl ent_55 (refBytes_data (bs:=rc.val) I (hv4.mono hD13) (by have:=ho5.k;have:=ho5.v;omega)) ?_;clear I Z a;rintro r w ⟨D17,hD18,I,hb19⟩ a Z;obtain ⟨A20,c21,rfl,_⟩:=hb19.slice;refine ⟨fun _=>(Inv.weaken I (hD13.trans hD18)), ?_⟩;refine dp 22 Z rfl (f_build (vs:= [(0,_),(1,_),(2,_),(3,_),(4,_),(5,_),(6,_),(7,_),(8,_),(9,_)]) (l:= [_,_,_,_,_,_,_,_,_,_]) rfl built_68 rfl) (fun _=>(Inv.weaken I (hD13.trans hD18))) ?_;clear Z a;intro a Z;refine do1 23 Z rfl ?_;refine f_store (l:= [_,_,_,_,_,_,_,_,_,_]) (ss':=_::_) 0 Z I rfl rfl rfl rfl rfl sz_68 (by simp [Value.cells,Value.oneCell',pgCells,rcCells,zPg]) rfl rfl rfl ?_;clear I w;intro w I;refine ⟨nl, ?_⟩;refine d_done (by kernel_rfl) ?_;refine gc 2 Z ?_;refine retc1 rfl Z rfl agg_68 (I.seg 0 rfl) rfl ?_;exact ⟨_,(hD13.trans hD18),I.drop.drop,⟨_,_,rfl,(hb14.mono hD18),hb19,ho5⟩⟩
theorem Make_spec {w0 w:World} {D:Sto} {ss:List Seg} (I:Inv w0 D ss w) :
  Calls Tryd.prog 34 #[] w (Ret fun r w'=> ∃D',Le D D'/\Inv w0 D' ss w'/\DR 10 RcR D' r makeR):=by
 refine enter (N:=7) Tryd.func34 rfl rfl rfl ?_;intro a Z;refine go 4 Z I ?_;clear Z a;intro a Z;refine zs Z (f_build (vs:= [(4,_),(5,_)]) (l:= [_,_,_,_,_,_,_,_,_,_]) rfl built_68 rfl) ?_;clear Z a;intro a Z;refine zs Z (f_build (vs:= [(4,_),(5,_)]) (l:= [_,_,_,_,_,_,_,_,_,_]) rfl built_68 rfl) ?_;clear Z a;intro a Z;refine l_step rfl (o_call Z rfl rfl rfl rfl ent_67 (name_spec I) ?_);clear I Z a;rintro r w ⟨D1,hD2,I,hb3⟩ a Z;obtain ⟨A4,c5,rfl,_⟩:=hb3.slice;refine l_step rfl (o_call Z rfl rfl rfl rfl ent_68 (counts_spec I 2 0) ?_);clear I Z a;rintro r w ⟨D6,hD7,I,hb8⟩ a Z;obtain ⟨A9,c10,rfl,_⟩:=hb8.slice;refine zs Z (f_build (vs:= [(4,_),(5,_),(7,_),(8,_)]) (l:= [_,_,_,_,_,_,_,_,_,_]) rfl built_68 rfl) ?_;clear Z a;intro a Z;refine l_step rfl (f_lit (vs:= [(0,_),(1,_),(2,_)]) (l:= [_,_,_,_,_,_,_,_,_,_,_,_,_,_,_,_,_,_,_,_,_,_,_,_,_,_,_,_,_,_]) Z I rfl rfl rfl rfl Tryd.underlying36 zs_68 rfl rfl rfl ?_);clear I Z a w;intro a b11 w Z I;refine go 3 Z I ?_;clear Z a;intro a Z;refine ret1 rfl Z rfl ?_;have hr1:RcR D6 _ ({page:=0,kind:=1}:Rc):=⟨_,_,rfl,RB.nil _,RB.nil _,ROk.of0 rfl (by simp) (by simp) (by simp) (by simp)⟩;have hr2:RcR D6 _ ({page:=1,kind:=1}:Rc):=⟨_,_,rfl,RB.nil _,RB.nil _,ROk.of0 rfl (by simp) (by simp) (by simp) (by simp)⟩;have hr3:RcR D6 _ ({page:=1,kind:=2,key:= [110],val:=twoB 2++twoB 0}:Rc):=⟨_,_,rfl,(hb3.mono hD7),hb8,ROk.of0 rfl (by simp) (by simp) (by simp) (by simp [twoB])⟩;obtain ⟨D9,hDz,hIa,hL⟩:=DR.lits (n:=3) (l:= [{page:=0,kind:=1},{page:=1,kind:=1},{page:=1,kind:=2,key:= [110],val:=twoB 2++twoB 0}]) 0 I rfl rfl rfl (by omega) (At.lit3 (size:=10) (by rfl) (by rfl) (by rfl) hr1 hr2 hr3);exact ⟨D9,(hD2.trans hD7).trans hDz,hIa,hL⟩
section
variable {P:Program} {ops:Array Oper} {Q:Exit->Act->World->Prop} {a:Act} {w0 w w':World} {D:Sto} {ss:List Seg} {o:Oper} {N:Nat} {env:Env} {K:Act->World->Prop}
def strOf (bs:List Nat):ByteArray:=(bs.map (fun x=>((x:Nat):Int))).foldl (fun r n=>r.push (UInt8.ofNat n.toNat)) ByteArray.empty
theorem r_toString {src dst e:TypeId} {x:Operand} {v:Value} {bs:List Nat} (I:Inv w0 D ss w) (hx:ev env x=some v) (hr:RB D v bs) (hs:P.underlying src=some (.slice e)) (he:P.underlying e=some (.int .u8)) (hd:P.underlying dst=some .string) :
  RunOp P env w (.convert src dst x) (.string (strOf bs)):=fun _ a o Z ho=>by
 obtain ⟨A,c,rfl,hc,hlt,hA,hat⟩:=hr;have h1:=run_convert_bytes_string (P:=P) w src dst e A bs.length c hs he hd;have h2:(Conv.bytesToString (.slice A bs.length c)).run P w= .ok (.string (strOf bs)) w:=by
  cases bs with
  |nil=>
   cases A with
   |none=>rfl
   |some ad=>
    have:=run_bytesToString (P:=P) w ad 0 c [] (by simpa using run_loadCells_list (P:=P) w ad [] (by simp));simpa [strOf] using this
  |cons y r=>
   obtain ⟨b,off,cs,T,fr,rfl,h7,h8⟩:=hat (by simp);have hld:=run_loadCells_list (P:=P) w ⟨b,off,none⟩ (((y::r).map (fun x=>((x:Nat):Int))).map (Value.int .u8)) (fun j u hu=>by
    rw [addr_add,cell_of (I.data _ _ h7)];simp only [List.map_map,List.getElem?_map,Option.map_eq_some_iff] at hu;obtain ⟨z,hz,rfl⟩:=hu;exact h8 j z hz)
   simp only [List.length_map] at hld;exact run_bytesToString (P:=P) w ⟨b,off,none⟩ _ c _ hld
 simp [execOp,ho,Z.eval hx,h1,h2]
theorem p_strEql {t t':TypeId} {x y:Operand} {s u:ByteArray} {e:Bool} (hx:ev env x=some (.string s)) (hy:ev env y=some (.string u)) (he:(s.toList==u.toList)=e):PureOp P env (.binOp .eql t x y t') (.bool e):=fun _ a w o Z ho=>by
 have h1:=Z.eval hx;have h2:=Z.eval hy;subst he;simp [execOp,ho,h1,h2,eqGuard,binOp,Op.stringOp,Sem.run]
end
theorem Inv.merge {w0 w:World} {D:Sto} {ss:List Seg} {s1 s2:Seg} (h:Inv w0 D (s1::s2::ss) w):Inv w0 D ((s1++s2)::ss) w:=h.perm (List.Perm.of_eq (by simp))
theorem TreeS.join {D:Sto} {vb vp:Value} {b:Bt} {P:Pl} {sb sp:Seg} (h:BatchS D vb vp b sb) (k:PoolS D vp P sp) (hp:b.pool=P.f):TreeS D vb vp b P (sb++sp):=⟨sb,sp,rfl,h,k,hp⟩
theorem BatchS.ptr {D:Sto} {vb vp:Value} {b:Bt} {s:Seg} (h:BatchS D vb vp b s): ∃bb,vb= .pointer (some ⟨bb,0,none⟩):=by obtain ⟨bb,bo,es,clk,m,vr,sr,h1,_⟩:=h;exact ⟨bb,h1⟩
end Go.Proofs.YtkknmpkcfpdllaaDoor.B
