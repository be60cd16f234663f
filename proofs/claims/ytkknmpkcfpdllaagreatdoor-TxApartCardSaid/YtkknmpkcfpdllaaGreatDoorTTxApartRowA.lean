/- What functions of the program compute, each function once: steps over the model, and the plain law of it. -/
import Derived.Test.YtkknmpkcfpdllaaGreatDoorSLaid
import Derived.Test.YtkknmpkcfpdllaaGreatDoorTTxApart
import Derived.Test.YtkknmpkcfpdllaaGreatDoorCards
import Derived.Test.YtkknmpkcfpdllaaGreatDoorTie
namespace Go.Proofs.YtkknmpkcfpdllaaGreatDoor.B
open Go Go.ChangeShapes Go.WideShapes Go.ChangeAt Go.RowKit Go.Proofs Go.Proofs.YtkknmpkcfpdllaaGreatDoor
set_option linter.unusedVariables false
set_option maxRecDepth 100000
theorem txApart_own:ownKnob Tryz.prog.godebug=none:=by kernel_rfl
theorem txApart_laidOut:laidOutB Tryz.prog=true:=by kernel_rfl
theorem txApart_ptr (u:TypeId) (h:Tryz.prog.typeName? 3 u=some "*errors.errorString"):u=316:=
 typeName_ptr_named (nm:= "errors.errorString") (by rw [show "*" ++ "errors.errorString" = "*errors.errorString" by decide];kernel_rfl) (by kernel_rfl) (by decide) u (by rw [show "*" ++ "errors.errorString" = "*errors.errorString" by decide];exact h)
def txApart_idx:Nat->Nat
 |101=>0
 |102=>1
 |103=>2
 |104=>3
 |105=>4
 |106=>5
 |107=>6
 |108=>7
 |109=>8
 |110=>9
 |111=>10
 |112=>11
 |113=>12
 |114=>13
 |115=>14
 |116=>15
 |117=>16
 |_=>17
theorem txApart_ltF: ∀d:Fin 17,txApart_idx (101+d.val)<17:=by decide
theorem txApart_injF: ∀d e:Fin 17,d≠e->txApart_idx (101+d.val)≠txApart_idx (101+e.val):=by decide
theorem txApart_lt {k:Nat} (h1:101<=k) (h2:k<=117):txApart_idx k<17:=by have:=txApart_ltF ⟨k - 101,by omega⟩;simp only at this;rwa [show 101+(k - 101)=k by omega] at this
theorem txApart_inj {j k:Nat} (h1:101<=j) (h2:j<=117) (h3:101<=k) (h4:k<=117) (h:j≠k):txApart_idx j≠txApart_idx k:=by have:=txApart_injF ⟨j - 101,by omega⟩ ⟨k - 101,by omega⟩ (by intro e;have:=congrArg Fin.val e;simp only at this;omega);simp only at this;rwa [show 101+(j - 101)=j by omega,show 101+(k - 101)=k by omega] at this
theorem txApart_sents {W:World} (h:laidMetH Tryz.prog Rows.txApartRow.laid W) :
  ∃ad:Nat->Addr,(∀j k,txApart_idx j≠txApart_idx k->txApart_idx j<17->txApart_idx k<17->ad j≠ad k)/\(∀k,txApart_idx k<17-> ∃c T,W.heap[(ad k).block]? =some (.cells c T (0,0)))/\
   GlobIs (fun b=>W.heap[b]?) 9 (errV ad 101)/\
   GlobIs (fun b=>W.heap[b]?) 11 (errV ad 102)/\
   GlobIs (fun b=>W.heap[b]?) 4 (errV ad 103)/\
   GlobIs (fun b=>W.heap[b]?) 5 (errV ad 104)/\
   GlobIs (fun b=>W.heap[b]?) 0 (errV ad 105)/\
   GlobIs (fun b=>W.heap[b]?) 7 (errV ad 106)/\
   GlobIs (fun b=>W.heap[b]?) 2 (errV ad 107)/\
   GlobIs (fun b=>W.heap[b]?) 12 (errV ad 108)/\
   GlobIs (fun b=>W.heap[b]?) 1 (errV ad 109)/\
   GlobIs (fun b=>W.heap[b]?) 13 (errV ad 110)/\
   GlobIs (fun b=>W.heap[b]?) 3 (errV ad 111)/\
   GlobIs (fun b=>W.heap[b]?) 6 (errV ad 112)/\
   GlobIs (fun b=>W.heap[b]?) 8 (errV ad 113)/\
   GlobIs (fun b=>W.heap[b]?) 14 (errV ad 114)/\
   GlobIs (fun b=>W.heap[b]?) 15 (errV ad 115)/\
   GlobIs (fun b=>W.heap[b]?) 16 (errV ad 116)/\
   GlobIs (fun b=>W.heap[b]?) 17 (errV ad 117):=by
 rw [MakeChecks.laidMetH_plain _ _ _ (by kernel_rfl)] at h;obtain ⟨al,hl,hne,hall⟩:=sents_of_laid (ti:=38) (tp:=316) (te:=332) Tryz.underlying38 txApart_ptr Tryz.underlying316 Tryz.underlying332 rfl rfl Tryz.underlying9 (by kernel_rfl) (by kernel_rfl) h (by
  intro x hx;simp only [Rows.txApartRow,List.mem_cons,List.not_mem_nil,or_false] at hx;rcases hx with rfl|rfl|rfl|rfl|rfl|rfl|rfl|rfl|rfl|rfl|rfl|rfl|rfl|rfl|rfl|rfl|rfl
  all_goals exact ⟨⟨_,rfl⟩,by kernel_rfl⟩)
 have hl':al.length=17:=hl;refine ⟨fun k=>al.getD (txApart_idx k) default,fun j k hjk hj hk=> ?_,fun k hk=> ?_, ?_, ?_, ?_, ?_, ?_, ?_, ?_, ?_, ?_, ?_, ?_, ?_, ?_, ?_, ?_, ?_, ?_⟩
 ·rcases Nat.lt_or_gt_of_ne hjk with h1|h1
  ·exact hne _ _ h1 (show _<17 from hk)
  exact fun e=>hne _ _ h1 (show _<17 from hj) e.symm
 ·obtain ⟨x,hx⟩: ∃x,Rows.txApartRow.laid[txApart_idx k]? =some x:=⟨_,List.getElem?_eq_getElem (show _<17 from hk)⟩;exact (hall _ x.1 x.2 hx).cell
 ·obtain ⟨g,T,fr,hg,hh⟩:=(hall 0 _ _ rfl).glob;obtain rfl:=Option.some.inj ((show Tryz.prog.globalNamed "sextet/api.ErrEnd" =some 9 by kernel_rfl).symm.trans hg);exact ⟨T,fr,hh⟩
 ·obtain ⟨g,T,fr,hg,hh⟩:=(hall 1 _ _ rfl).glob;obtain rfl:=Option.some.inj ((show Tryz.prog.globalNamed "sextet/api.ErrSum" =some 11 by kernel_rfl).symm.trans hg);exact ⟨T,fr,hh⟩
 ·obtain ⟨g,T,fr,hg,hh⟩:=(hall 2 _ _ rfl).glob;obtain rfl:=Option.some.inj ((show Tryz.prog.globalNamed "sextet/api.ErrShape" =some 4 by kernel_rfl).symm.trans hg);exact ⟨T,fr,hh⟩
 ·obtain ⟨g,T,fr,hg,hh⟩:=(hall 3 _ _ rfl).glob;obtain rfl:=Option.some.inj ((show Tryz.prog.globalNamed "sextet/api.ErrMany" =some 5 by kernel_rfl).symm.trans hg);exact ⟨T,fr,hh⟩
 ·obtain ⟨g,T,fr,hg,hh⟩:=(hall 4 _ _ rfl).glob;obtain rfl:=Option.some.inj ((show Tryz.prog.globalNamed "sextet/api.ErrRange" =some 0 by kernel_rfl).symm.trans hg);exact ⟨T,fr,hh⟩
 ·obtain ⟨g,T,fr,hg,hh⟩:=(hall 5 _ _ rfl).glob;obtain rfl:=Option.some.inj ((show Tryz.prog.globalNamed "sextet/api.ErrKind" =some 7 by kernel_rfl).symm.trans hg);exact ⟨T,fr,hh⟩
 ·obtain ⟨g,T,fr,hg,hh⟩:=(hall 6 _ _ rfl).glob;obtain rfl:=Option.some.inj ((show Tryz.prog.globalNamed "sextet/api.ErrNone" =some 2 by kernel_rfl).symm.trans hg);exact ⟨T,fr,hh⟩
 ·obtain ⟨g,T,fr,hg,hh⟩:=(hall 7 _ _ rfl).glob;obtain rfl:=Option.some.inj ((show Tryz.prog.globalNamed "sextet/api.ErrThere" =some 12 by kernel_rfl).symm.trans hg);exact ⟨T,fr,hh⟩
 ·obtain ⟨g,T,fr,hg,hh⟩:=(hall 8 _ _ rfl).glob;obtain rfl:=Option.some.inj ((show Tryz.prog.globalNamed "sextet/api.ErrFull" =some 1 by kernel_rfl).symm.trans hg);exact ⟨T,fr,hh⟩
 ·obtain ⟨g,T,fr,hg,hh⟩:=(hall 9 _ _ rfl).glob;obtain rfl:=Option.some.inj ((show Tryz.prog.globalNamed "sextet/api.ErrCrash" =some 13 by kernel_rfl).symm.trans hg);exact ⟨T,fr,hh⟩
 ·obtain ⟨g,T,fr,hg,hh⟩:=(hall 10 _ _ rfl).glob;obtain rfl:=Option.some.inj ((show Tryz.prog.globalNamed "sextet/api.ErrState" =some 3 by kernel_rfl).symm.trans hg);exact ⟨T,fr,hh⟩
 ·obtain ⟨g,T,fr,hg,hh⟩:=(hall 11 _ _ rfl).glob;obtain rfl:=Option.some.inj ((show Tryz.prog.globalNamed "sextet/api.ErrConflict" =some 6 by kernel_rfl).symm.trans hg);exact ⟨T,fr,hh⟩
 ·obtain ⟨g,T,fr,hg,hh⟩:=(hall 12 _ _ rfl).glob;obtain rfl:=Option.some.inj ((show Tryz.prog.globalNamed "sextet/api.ErrWaits" =some 8 by kernel_rfl).symm.trans hg);exact ⟨T,fr,hh⟩
 ·obtain ⟨g,T,fr,hg,hh⟩:=(hall 13 _ _ rfl).glob;obtain rfl:=Option.some.inj ((show Tryz.prog.globalNamed "sextet/api.ErrLimit" =some 14 by kernel_rfl).symm.trans hg);exact ⟨T,fr,hh⟩
 ·obtain ⟨g,T,fr,hg,hh⟩:=(hall 14 _ _ rfl).glob;obtain rfl:=Option.some.inj ((show Tryz.prog.globalNamed "sextet/api.ErrFenced" =some 15 by kernel_rfl).symm.trans hg);exact ⟨T,fr,hh⟩
 ·obtain ⟨g,T,fr,hg,hh⟩:=(hall 15 _ _ rfl).glob;obtain rfl:=Option.some.inj ((show Tryz.prog.globalNamed "sextet/api.ErrWord" =some 16 by kernel_rfl).symm.trans hg);exact ⟨T,fr,hh⟩
 obtain ⟨g,T,fr,hg,hh⟩:=(hall 16 _ _ rfl).glob;obtain rfl:=Option.some.inj ((show Tryz.prog.globalNamed "sextet/api.ErrNumber" =some 17 by kernel_rfl).symm.trans hg);exact ⟨T,fr,hh⟩
theorem txApart_contract (H:Type) (enc:TypeId×Value->H) (W:World) (base:Nat) (args:Array Value) (ds gs:List (DataW H)) (before:List MemPlace)
  (hval: ∀(j:Nat) t v,Tryz.f11.params[j]? =some t->args[j]? =some v->Value.okWide Tryz.prog W .any base t v)
  (hW:DataW.Whole enc Tryz.prog Tryz.f11.params.toList Rows.txApartSpec.vars false W args.toList ds gs before) (hL:laidMetH Tryz.prog Rows.txApartRow.laid W) :
  Calls Tryz.prog 11 args W fun e W'=> ∃v,e= .returned v/\Rows.txApartSpec.post enc Tryz.prog Tryz.f11 false true false false W args v W':=by
 have hW':=hW;obtain ⟨p,q,hA0,hV,rfl,hfz,hnd⟩:=hW;have hA:DataW.TrodAll enc Tryz.prog W 0 (fun _=>true) true Tryz.f11.params.toList args.toList ds p:=hA0;rw [Tryz.params11] at hA hval;obtain ⟨v0,vs0,d0,ds0,p0,q0,hargs,rfl,rfl,h0,r0⟩:=trodAll_cons hA;obtain ⟨v1,vs1,d1,ds1,p1,q1,rfl,rfl,rfl,h1,r1⟩:=trodAll_cons r0;obtain ⟨v2,vs2,d2,ds2,p2,q2,rfl,rfl,rfl,h2,r2⟩:=trodAll_cons r1;obtain ⟨rfl,rfl,rfl⟩:=trodAll_nil r2;obtain rfl:args= #[v0,v1,v2]:=by cases args;simp_all
 obtain ⟨rfl,rfl⟩:=trodVars_none hV;obtain ⟨a0,rfl,rfl,rfl,w0⟩:=open_int Tryz.underlying3 (hval 0 3 v0 rfl rfl) h0;obtain ⟨a1,rfl,rfl,rfl⟩:=open_bool Tryz.underlying4 (hval 1 4 v1 rfl rfl) h1;have k2:=h2;have lt2: ∀x∈p2,x.block<W.heap.size:=by obtain ⟨m,hm⟩:=k2;exact DataW.trod_lt m _ _ _ hm
 obtain ⟨b2,rb2,bl2⟩:=open_bytes Tryz.underlying33 Tryz.underlying5 (by kernel_rfl) (hval 2 33 v2 rfl rfl) h2;clear hA0;obtain ⟨ad,hne,hcl,g101,g102,g103,g104,g105,g106,g107,g108,g109,g110,g111,g112,g113,g114,g115,g116,g117⟩:=txApart_sents hL;have hS:Sents (fun b=>W.heap[b]?) ad:=⟨g101,g102,g103,g104,g105,g106,g107,g108,g109,g110,g111,g112,g113,g114,g115,g116,g117,fun j k h1 h2 h3 h4 hjk=>hne j k (txApart_inj h1 h2 h3 h4 hjk) (txApart_lt h1 h2) (txApart_lt h3 h4),fun k h1 h2=>hcl k (txApart_lt h1 h2)⟩;refine ((TxApart_spec (Inv.start W) hS rb2 a0 a1)).mono fun e W' hr=> ?_;obtain ⟨r,rfl,rfl,D',hD,I⟩:=ans_true hr;have bel:=below_of I hD;exact ⟨_,rfl,_,_,_, [],_, [],hW',trodAll_mk1 (shut_bool Tryz.underlying4 _),(trodAll_cons_mk (shut_int Tryz.underlying3 w0) (trodAll_cons_mk (shut_bool Tryz.underlying4 _) (trodAll_cons_mk (Below.trod txApart_laidOut (by kernel_rfl) (of_decide_eq_true (by kernel_rfl)) k2 bel lt2) trodAll_mk0))),rfl,bel.frame _,fun h=>by cases h⟩
theorem txApart_reads (os:Os) {H:Type} (enc:TypeId×Value->H): ∃x,DataW.whole enc Tryz.prog ((World.doorLaid Tryz.prog 332 os).forCall (fun _ _=>0) ⟨#[], #[.int .i64 0, .bool false, .slice none 0 0], []⟩).memory Tryz.f11.params.toList Rows.txApartSpec.vars false (#[.int .i64 0, .bool false, .slice none 0 0]:Array Value).toList 8=some ([.lit (.int .i64 0), .lit (.bool false), .nil], [],x):=
 ⟨[],by kernel_rfl⟩
theorem txApart_met (os:Os):laidMetH Tryz.prog Rows.txApartRow.laid ((World.doorLaid Tryz.prog 332 os).forCall (fun _ _=>0) ⟨#[], #[.int .i64 0, .bool false, .slice none 0 0], []⟩).memory:=
 laidMetH_of_parts3 (fuel:=8) (laidMet_of_run' 8 (by kernel_rfl) (by kernel_rfl)) (by kernel_rfl) (by kernel_rfl)
theorem txApart_lifted (os:Os) (started:os.Started) (H:Type) (enc:TypeId×Value->H) (F:Stop.Interp) :
  ReturnsInHanded {} Tryz.checked os 11 .any ((OpenSpec.ofChange Rows.txApartSpec).preRow enc Tryz.prog Tryz.f11 Rows.txApartRow.domain false Rows.txApartRow.laid) (((OpenSpec.ofChange Rows.txApartSpec).at F).post enc Tryz.prog Tryz.f11 false true false false):=by
 obtain ⟨places,hx⟩:=txApart_reads os enc;refine returnsInHanded_of_row (C:=Tryz.checked) (s:=OpenSpec.ofChange Rows.txApartSpec) txApart_own started (by kernel_rfl) Tryz.func11
  (witness_row_shaped (enc:=enc) (C:=Tryz.checked) (World.doorLaid Tryz.prog 332 os) #[.int .i64 0, .bool false, .slice none 0 0] rfl (World.shaped_of_RefB (by kernel_rfl) (by kernel_rfl)) (by kernel_rfl)
   (OpenSpec.preRow_of_cond 8 hx (by kernel_rfl) (fun k hk=>by cases hk) (by kernel_rfl) (txApart_met os))) ?_
 intro W base args ds gs before hval hW _ hcond _ hL _ _;exact txApart_contract H enc W base args ds gs before hval hW hL
end Go.Proofs.YtkknmpkcfpdllaaGreatDoor.B
