/- The statement Rows.SegHealsCardSaid is proved here, for every input, as its card states it; the package variables that its row lists are as the program's text lays them. -/
import Derived.Test.YtikllmoofngjnaaGreatDoorSLaid
import Derived.Test.YtikllmoofngjnaaGreatDoorSInts
import Derived.Test.YtikllmoofngjnaaGreatDoorTSegHeals
import Derived.Test.YtikllmoofngjnaaGreatDoorCards
import Derived.Test.YtikllmoofngjnaaGreatDoorTie
namespace Go.Proofs.YtikllmoofngjnaaGreatDoor.B
open Go Go.ChangeShapes Go.WideShapes Go.ChangeAt Go.RowKit Go.Proofs Go.Proofs.YtikllmoofngjnaaGreatDoor
set_option linter.unusedVariables false
set_option maxRecDepth 100000
theorem segHeals_own:ownKnob Tryz.prog.godebug=none:=by kernel_rfl
theorem segHeals_laidOut:laidOutB Tryz.prog=true:=by kernel_rfl
theorem segHeals_ptr (u:TypeId) (h:Tryz.prog.typeName? 3 u=some "*errors.errorString"):u=283:=
 typeName_ptr_named (nm:= "errors.errorString") (by rw [show "*" ++ "errors.errorString" = "*errors.errorString" by decide];kernel_rfl) (by kernel_rfl) (by decide) u (by rw [show "*" ++ "errors.errorString" = "*errors.errorString" by decide];exact h)
def segHeals_idx:Nat->Nat
 |101=>0
 |103=>1
 |104=>2
 |105=>3
 |106=>4
 |107=>5
 |108=>6
 |109=>7
 |110=>8
 |111=>9
 |_=>10
theorem segHeals_sents {W:World} (h:laidMetH Tryz.prog Rows.segHealsRow.laid W) :
  ∃ad:Nat->Addr,(∀j k,segHeals_idx j≠segHeals_idx k->segHeals_idx j<10->segHeals_idx k<10->ad j≠ad k)/\(∀k,segHeals_idx k<10-> ∃c T,W.heap[(ad k).block]? =some (.cells c T (0,0)))/\
   GlobIs (fun b=>W.heap[b]?) 9 (errV ad 101)/\
   GlobIs (fun b=>W.heap[b]?) 4 (errV ad 103)/\
   GlobIs (fun b=>W.heap[b]?) 3 (errV ad 104)/\
   GlobIs (fun b=>W.heap[b]?) 0 (errV ad 105)/\
   GlobIs (fun b=>W.heap[b]?) 2 (errV ad 106)/\
   GlobIs (fun b=>W.heap[b]?) 8 (errV ad 107)/\
   GlobIs (fun b=>W.heap[b]?) 7 (errV ad 108)/\
   GlobIs (fun b=>W.heap[b]?) 6 (errV ad 109)/\
   GlobIs (fun b=>W.heap[b]?) 5 (errV ad 110)/\
   GlobIs (fun b=>W.heap[b]?) 1 (errV ad 111):=by
 rw [MakeChecks.laidMetH_plain _ _ _ (by kernel_rfl)] at h;obtain ⟨al,hl,hne,hall⟩:=sents_of_laid (ti:=45) (tp:=283) (te:=299) Tryz.underlying45 segHeals_ptr Tryz.underlying283 Tryz.underlying299 rfl rfl Tryz.underlying9 (by kernel_rfl) (by kernel_rfl) h (by
  intro x hx;simp only [Rows.segHealsRow,List.mem_cons,List.not_mem_nil,or_false] at hx;rcases hx with rfl|rfl|rfl|rfl|rfl|rfl|rfl|rfl|rfl|rfl
  all_goals exact ⟨⟨_,rfl⟩,by kernel_rfl⟩)
 have hl':al.length=10:=hl;refine ⟨fun k=>al.getD (segHeals_idx k) default,fun j k hjk hj hk=> ?_,fun k hk=> ?_, ?_, ?_, ?_, ?_, ?_, ?_, ?_, ?_, ?_, ?_⟩
 ·rcases Nat.lt_or_gt_of_ne hjk with h1|h1
  ·exact hne _ _ h1 (show _<10 from hk)
  exact fun e=>hne _ _ h1 (show _<10 from hj) e.symm
 ·obtain ⟨x,hx⟩: ∃x,Rows.segHealsRow.laid[segHeals_idx k]? =some x:=⟨_,List.getElem?_eq_getElem (show _<10 from hk)⟩;exact (hall _ x.1 x.2 hx).cell
 ·obtain ⟨g,T,fr,hg,hh⟩:=(hall 0 _ _ rfl).glob;obtain rfl:=Option.some.inj ((show Tryz.prog.globalNamed "sextet/api.ErrEnd" =some 9 by kernel_rfl).symm.trans hg);exact ⟨T,fr,hh⟩
 ·obtain ⟨g,T,fr,hg,hh⟩:=(hall 1 _ _ rfl).glob;obtain rfl:=Option.some.inj ((show Tryz.prog.globalNamed "sextet/api.ErrShape" =some 4 by kernel_rfl).symm.trans hg);exact ⟨T,fr,hh⟩
 ·obtain ⟨g,T,fr,hg,hh⟩:=(hall 2 _ _ rfl).glob;obtain rfl:=Option.some.inj ((show Tryz.prog.globalNamed "sextet/api.ErrMany" =some 3 by kernel_rfl).symm.trans hg);exact ⟨T,fr,hh⟩
 ·obtain ⟨g,T,fr,hg,hh⟩:=(hall 3 _ _ rfl).glob;obtain rfl:=Option.some.inj ((show Tryz.prog.globalNamed "sextet/api.ErrRange" =some 0 by kernel_rfl).symm.trans hg);exact ⟨T,fr,hh⟩
 ·obtain ⟨g,T,fr,hg,hh⟩:=(hall 4 _ _ rfl).glob;obtain rfl:=Option.some.inj ((show Tryz.prog.globalNamed "sextet/api.ErrKind" =some 2 by kernel_rfl).symm.trans hg);exact ⟨T,fr,hh⟩
 ·obtain ⟨g,T,fr,hg,hh⟩:=(hall 5 _ _ rfl).glob;obtain rfl:=Option.some.inj ((show Tryz.prog.globalNamed "sextet/api.ErrNone" =some 8 by kernel_rfl).symm.trans hg);exact ⟨T,fr,hh⟩
 ·obtain ⟨g,T,fr,hg,hh⟩:=(hall 6 _ _ rfl).glob;obtain rfl:=Option.some.inj ((show Tryz.prog.globalNamed "sextet/api.ErrThere" =some 7 by kernel_rfl).symm.trans hg);exact ⟨T,fr,hh⟩
 ·obtain ⟨g,T,fr,hg,hh⟩:=(hall 7 _ _ rfl).glob;obtain rfl:=Option.some.inj ((show Tryz.prog.globalNamed "sextet/api.ErrFull" =some 6 by kernel_rfl).symm.trans hg);exact ⟨T,fr,hh⟩
 ·obtain ⟨g,T,fr,hg,hh⟩:=(hall 8 _ _ rfl).glob;obtain rfl:=Option.some.inj ((show Tryz.prog.globalNamed "sextet/api.ErrCrash" =some 5 by kernel_rfl).symm.trans hg);exact ⟨T,fr,hh⟩
 obtain ⟨g,T,fr,hg,hh⟩:=(hall 9 _ _ rfl).glob;obtain rfl:=Option.some.inj ((show Tryz.prog.globalNamed "sextet/api.ErrState" =some 1 by kernel_rfl).symm.trans hg);exact ⟨T,fr,hh⟩
theorem segHeals_contract (H:Type) (enc:TypeId×Value->H) (W:World) (base:Nat) (args:Array Value) (ds gs:List (DataW H)) (before:List MemPlace)
  (hval: ∀(j:Nat) t v,Tryz.f5.params[j]? =some t->args[j]? =some v->Value.okWide Tryz.prog W .any base t v)
  (hW:DataW.Whole enc Tryz.prog Tryz.f5.params.toList Rows.segHealsSpec.vars false W args.toList ds gs before) (hL:laidMetH Tryz.prog Rows.segHealsRow.laid W) :
  Calls Tryz.prog 5 args W fun e W'=> ∃v,e= .returned v/\Rows.segHealsSpec.post enc Tryz.prog Tryz.f5 false true false false W args v W':=by
 have hW':=hW;obtain ⟨p,q,hA0,hV,rfl,hfz,hnd⟩:=hW;have hA:DataW.TrodAll enc Tryz.prog W 0 (fun _=>true) true Tryz.f5.params.toList args.toList ds p:=hA0;rw [Tryz.params5] at hA hval;obtain ⟨v0,vs0,d0,ds0,p0,q0,hargs,rfl,rfl,h0,r0⟩:=trodAll_cons hA;obtain ⟨v1,vs1,d1,ds1,p1,q1,rfl,rfl,rfl,h1,r1⟩:=trodAll_cons r0;obtain ⟨rfl,rfl,rfl⟩:=trodAll_nil r1;obtain rfl:args= #[v0,v1]:=by cases args;simp_all
 obtain ⟨rfl,rfl⟩:=trodVars_none hV;have k0:=h0;have lt0: ∀x∈p0,x.block<W.heap.size:=by obtain ⟨m,hm⟩:=k0;exact DataW.trod_lt m _ _ _ hm
 obtain ⟨b0,rb0,bl0⟩:=open_ints Tryz.underlying22 Tryz.underlying3 (by kernel_rfl) (hval 0 22 v0 rfl rfl) h0;obtain ⟨a1,rfl,rfl,rfl,w1⟩:=open_int Tryz.underlying3 (hval 1 3 v1 rfl rfl) h1;clear hA0;obtain ⟨ad,hne,hcl,g101,g103,g104,g105,g106,g107,g108,g109,g110,g111⟩:=segHeals_sents hL;have hS:YSents (fun b=>W.heap[b]?) ad:=⟨g101,g103,g104,g105,g106,g107,g108,g109,g110,g111⟩;refine ((SegHeals_spec (Inv.start W) hS rb0 a1)).mono fun e W' hr=> ?_;obtain ⟨r,rfl,rfl,D',hD,I⟩:=ans_true hr;have bel:=below_of I hD;exact ⟨_,rfl,_,_,_, [],_, [],hW',trodAll_mk1 (shut_bool Tryz.underlying4 _),(trodAll_cons_mk (Below.trod segHeals_laidOut (by kernel_rfl) (of_decide_eq_true (by kernel_rfl)) k0 bel lt0) (trodAll_cons_mk (shut_int Tryz.underlying3 w1) trodAll_mk0)),rfl,bel.frame _,fun h=>by cases h⟩
theorem segHeals_reads (os:Os) {H:Type} (enc:TypeId×Value->H): ∃x,DataW.whole enc Tryz.prog ((World.doorLaid Tryz.prog 332 os).forCall (fun _ _=>0) ⟨#[], #[.slice none 0 0, .int .i64 0], []⟩).memory Tryz.f5.params.toList Rows.segHealsSpec.vars false (#[.slice none 0 0, .int .i64 0]:Array Value).toList 8=some ([.nil, .lit (.int .i64 0)], [],x):=
 ⟨[],by kernel_rfl⟩
theorem segHeals_met (os:Os):laidMetH Tryz.prog Rows.segHealsRow.laid ((World.doorLaid Tryz.prog 332 os).forCall (fun _ _=>0) ⟨#[], #[.slice none 0 0, .int .i64 0], []⟩).memory:=
 laidMetH_of_parts3 (fuel:=8) (laidMet_of_run' 8 (by kernel_rfl) (by kernel_rfl)) (by kernel_rfl) (by kernel_rfl)
theorem segHeals_lifted (os:Os) (started:os.Started) (H:Type) (enc:TypeId×Value->H) (F:Stop.Interp) :
  ReturnsInHanded {} Tryz.checked os 5 .any ((OpenSpec.ofChange Rows.segHealsSpec).preRow enc Tryz.prog Tryz.f5 Rows.segHealsRow.domain false Rows.segHealsRow.laid) (((OpenSpec.ofChange Rows.segHealsSpec).at F).post enc Tryz.prog Tryz.f5 false true false false):=by
 obtain ⟨places,hx⟩:=segHeals_reads os enc;refine returnsInHanded_of_row (C:=Tryz.checked) (s:=OpenSpec.ofChange Rows.segHealsSpec) segHeals_own started (by kernel_rfl) Tryz.func5
  (witness_row_shaped (enc:=enc) (C:=Tryz.checked) (World.doorLaid Tryz.prog 332 os) #[.slice none 0 0, .int .i64 0] rfl (World.shaped_of_RefB (by kernel_rfl) (by kernel_rfl)) (by kernel_rfl)
   (OpenSpec.preRow_of_cond 8 hx (by kernel_rfl) (fun k hk=>by cases hk) (by kernel_rfl) (segHeals_met os))) ?_
 intro W base args ds gs before hval hW _ hcond _ hL _ _;exact segHeals_contract H enc W base args ds gs before hval hW hL
theorem segHeals_said:Rows.SegHealsSaid:=
 OpenClaim.holds_of_cond 5 Tryz.f5 rfl rfl rfl rfl rfl rfl rfl ⟨rfl,rfl,rfl,rfl,rfl⟩ rfl rfl rfl rfl rfl (by kernel_rfl) Tryz.func5 (by kernel_rfl)
  (of_decide_eq_true (by kernel_rfl)) (by unfold Func.isWrapper;first|(rw [if_pos (by decide+kernel)];kernel_rfl)|(rw [if_neg (by decide+kernel)];exact ⟨rfl,rfl⟩))
  (fun os started H enc _ F=>by rw [OpenClaim.pre_eq_preRow];exact segHeals_lifted os started H enc F)
theorem segHeals_plain (f:FuncId) (fn:Func) (hf:Tryz.pinned.checked.prog.funcNamed "sextet/sextetlaw13.SegHeals" =some f) (hfn:Tryz.pinned.checked.prog.funcs[f]? =some fn) :
  true=Tryz.pinned.checked.prog.looks []/\ ∀(j:Nat) t,fn.params[j]? =some t->Tryz.pinned.checked.prog.wantsStandIn t=false:=by
 obtain rfl:f=5:=Option.some.inj ((show Tryz.prog.funcNamed "sextet/sextetlaw13.SegHeals" =some 5 by kernel_rfl).symm.trans hf) |>.symm;obtain rfl:fn=Tryz.f5:=(Option.some.inj (Tryz.func5.symm.trans hfn)).symm;refine ⟨by kernel_rfl,fun j t ht=> ?_⟩;rw [Tryz.params5] at ht;have hm:t∈ [22,3]:=by simpa using Array.mem_of_getElem? ht
 have hall:([22,3].all fun u=> !Tryz.prog.wantsStandIn u)=true:=by kernel_rfl
 exact (show Tryz.prog.wantsStandIn t=false by simpa using List.all_eq_true.1 hall t hm)
theorem segHeals_holds:Rows.SegHealsCardSaid:=
 Claim7.holds_tied_plain_at .later [] _ _ _ _ segHeals_said (fun _ h=>by cases h) (by kernel_rfl) (fun _ h=>by cases h) segHeals_row_tie rfl ⟨rfl,rfl⟩ (by kernel_rfl) rfl segHeals_plain (by kernel_rfl)
end Go.Proofs.YtikllmoofngjnaaGreatDoor.B
namespace Go.Proofs.YtikllmoofngjnaaGreatDoor
/-- The card, under a short name. -/
theorem segHeals_holds : Rows.SegHealsCardSaid := B.segHeals_holds
#print axioms segHeals_holds
end Go.Proofs.YtikllmoofngjnaaGreatDoor
