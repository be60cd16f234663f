/- The statement Rows.SegFallsCardSaid is proved here, for every input, as its card states it; the package variables that its row lists are as the program's text lays them. -/
import Derived.Test.YtikllmoofngjnaaGreatDoorSLaid
import Derived.Test.YtikllmoofngjnaaGreatDoorTSegP
import Derived.Test.YtikllmoofngjnaaGreatDoorTSegFalls
import Derived.Test.YtikllmoofngjnaaGreatDoorCards
import Derived.Test.YtikllmoofngjnaaGreatDoorTie
namespace Go.Proofs.YtikllmoofngjnaaGreatDoor.B
open Go Go.ChangeShapes Go.WideShapes Go.ChangeAt Go.RowKit Go.Proofs Go.Proofs.YtikllmoofngjnaaGreatDoor
set_option linter.unusedVariables false
set_option maxRecDepth 100000
theorem segFalls_own:ownKnob Tryz.prog.godebug=none:=by kernel_rfl
theorem segFalls_laidOut:laidOutB Tryz.prog=true:=by kernel_rfl
theorem segFalls_ptr (u:TypeId) (h:Tryz.prog.typeName? 3 u=some "*errors.errorString"):u=283:=
 typeName_ptr_named (nm:= "errors.errorString") (by rw [show "*" ++ "errors.errorString" = "*errors.errorString" by decide];kernel_rfl) (by kernel_rfl) (by decide) u (by rw [show "*" ++ "errors.errorString" = "*errors.errorString" by decide];exact h)
def segFalls_idx:Nat->Nat
 |101=>0
 |102=>1
 |103=>2
 |104=>3
 |105=>4
 |106=>5
 |107=>6
 |108=>7
 |109=>8
 |110=>9
 |111=>10
 |112=>11
 |113=>12
 |114=>13
 |115=>14
 |116=>15
 |117=>16
 |_=>17
theorem segFalls_ltF: ∀d:Fin 17,segFalls_idx (101+d.val)<17:=by decide
theorem segFalls_injF: ∀d e:Fin 17,d≠e->segFalls_idx (101+d.val)≠segFalls_idx (101+e.val):=by decide
theorem segFalls_lt {k:Nat} (h1:101<=k) (h2:k<=117):segFalls_idx k<17:=by have:=segFalls_ltF ⟨k - 101,by omega⟩;simp only at this;rwa [show 101+(k - 101)=k by omega] at this
theorem segFalls_inj {j k:Nat} (h1:101<=j) (h2:j<=117) (h3:101<=k) (h4:k<=117) (h:j≠k):segFalls_idx j≠segFalls_idx k:=by have:=segFalls_injF ⟨j - 101,by omega⟩ ⟨k - 101,by omega⟩ (by intro e;have:=congrArg Fin.val e;simp only at this;omega);simp only at this;rwa [show 101+(j - 101)=j by omega,show 101+(k - 101)=k by omega] at this
theorem segFalls_sents {W:World} (h:laidMetH Tryz.prog Rows.segFallsRow.laid W) :
  ∃ad:Nat->Addr,(∀j k,segFalls_idx j≠segFalls_idx k->segFalls_idx j<17->segFalls_idx k<17->ad j≠ad k)/\(∀k,segFalls_idx k<17-> ∃c T,W.heap[(ad k).block]? =some (.cells c T (0,0)))/\
   GlobIs (fun b=>W.heap[b]?) 9 (errV ad 101)/\
   GlobIs (fun b=>W.heap[b]?) 10 (errV ad 102)/\
   GlobIs (fun b=>W.heap[b]?) 4 (errV ad 103)/\
   GlobIs (fun b=>W.heap[b]?) 3 (errV ad 104)/\
   GlobIs (fun b=>W.heap[b]?) 0 (errV ad 105)/\
   GlobIs (fun b=>W.heap[b]?) 2 (errV ad 106)/\
   GlobIs (fun b=>W.heap[b]?) 8 (errV ad 107)/\
   GlobIs (fun b=>W.heap[b]?) 7 (errV ad 108)/\
   GlobIs (fun b=>W.heap[b]?) 6 (errV ad 109)/\
   GlobIs (fun b=>W.heap[b]?) 5 (errV ad 110)/\
   GlobIs (fun b=>W.heap[b]?) 1 (errV ad 111)/\
   GlobIs (fun b=>W.heap[b]?) 11 (errV ad 112)/\
   GlobIs (fun b=>W.heap[b]?) 12 (errV ad 113)/\
   GlobIs (fun b=>W.heap[b]?) 13 (errV ad 114)/\
   GlobIs (fun b=>W.heap[b]?) 14 (errV ad 115)/\
   GlobIs (fun b=>W.heap[b]?) 15 (errV ad 116)/\
   GlobIs (fun b=>W.heap[b]?) 16 (errV ad 117):=by
 rw [MakeChecks.laidMetH_plain _ _ _ (by kernel_rfl)] at h;obtain ⟨al,hl,hne,hall⟩:=sents_of_laid (ti:=45) (tp:=283) (te:=299) Tryz.underlying45 segFalls_ptr Tryz.underlying283 Tryz.underlying299 rfl rfl Tryz.underlying9 (by kernel_rfl) (by kernel_rfl) h (by
  intro x hx;simp only [Rows.segFallsRow,List.mem_cons,List.not_mem_nil,or_false] at hx;rcases hx with rfl|rfl|rfl|rfl|rfl|rfl|rfl|rfl|rfl|rfl|rfl|rfl|rfl|rfl|rfl|rfl|rfl
  all_goals exact ⟨⟨_,rfl⟩,by kernel_rfl⟩)
 have hl':al.length=17:=hl;refine ⟨fun k=>al.getD (segFalls_idx k) default,fun j k hjk hj hk=> ?_,fun k hk=> ?_, ?_, ?_, ?_, ?_, ?_, ?_, ?_, ?_, ?_, ?_, ?_, ?_, ?_, ?_, ?_, ?_, ?_⟩
 ·rcases Nat.lt_or_gt_of_ne hjk with h1|h1
  ·exact hne _ _ h1 (show _<17 from hk)
  exact fun e=>hne _ _ h1 (show _<17 from hj) e.symm
 ·obtain ⟨x,hx⟩: ∃x,Rows.segFallsRow.laid[segFalls_idx k]? =some x:=⟨_,List.getElem?_eq_getElem (show _<17 from hk)⟩;exact (hall _ x.1 x.2 hx).cell
 ·obtain ⟨g,T,fr,hg,hh⟩:=(hall 0 _ _ rfl).glob;obtain rfl:=Option.some.inj ((show Tryz.prog.globalNamed "sextet/api.ErrEnd" =some 9 by kernel_rfl).symm.trans hg);exact ⟨T,fr,hh⟩
 ·obtain ⟨g,T,fr,hg,hh⟩:=(hall 1 _ _ rfl).glob;obtain rfl:=Option.some.inj ((show Tryz.prog.globalNamed "sextet/api.ErrSum" =some 10 by kernel_rfl).symm.trans hg);exact ⟨T,fr,hh⟩
 ·obtain ⟨g,T,fr,hg,hh⟩:=(hall 2 _ _ rfl).glob;obtain rfl:=Option.some.inj ((show Tryz.prog.globalNamed "sextet/api.ErrShape" =some 4 by kernel_rfl).symm.trans hg);exact ⟨T,fr,hh⟩
 ·obtain ⟨g,T,fr,hg,hh⟩:=(hall 3 _ _ rfl).glob;obtain rfl:=Option.some.inj ((show Tryz.prog.globalNamed "sextet/api.ErrMany" =some 3 by kernel_rfl).symm.trans hg);exact ⟨T,fr,hh⟩
 ·obtain ⟨g,T,fr,hg,hh⟩:=(hall 4 _ _ rfl).glob;obtain rfl:=Option.some.inj ((show Tryz.prog.globalNamed "sextet/api.ErrRange" =some 0 by kernel_rfl).symm.trans hg);exact ⟨T,fr,hh⟩
 ·obtain ⟨g,T,fr,hg,hh⟩:=(hall 5 _ _ rfl).glob;obtain rfl:=Option.some.inj ((show Tryz.prog.globalNamed "sextet/api.ErrKind" =some 2 by kernel_rfl).symm.trans hg);exact ⟨T,fr,hh⟩
 ·obtain ⟨g,T,fr,hg,hh⟩:=(hall 6 _ _ rfl).glob;obtain rfl:=Option.some.inj ((show Tryz.prog.globalNamed "sextet/api.ErrNone" =some 8 by kernel_rfl).symm.trans hg);exact ⟨T,fr,hh⟩
 ·obtain ⟨g,T,fr,hg,hh⟩:=(hall 7 _ _ rfl).glob;obtain rfl:=Option.some.inj ((show Tryz.prog.globalNamed "sextet/api.ErrThere" =some 7 by kernel_rfl).symm.trans hg);exact ⟨T,fr,hh⟩
 ·obtain ⟨g,T,fr,hg,hh⟩:=(hall 8 _ _ rfl).glob;obtain rfl:=Option.some.inj ((show Tryz.prog.globalNamed "sextet/api.ErrFull" =some 6 by kernel_rfl).symm.trans hg);exact ⟨T,fr,hh⟩
 ·obtain ⟨g,T,fr,hg,hh⟩:=(hall 9 _ _ rfl).glob;obtain rfl:=Option.some.inj ((show Tryz.prog.globalNamed "sextet/api.ErrCrash" =some 5 by kernel_rfl).symm.trans hg);exact ⟨T,fr,hh⟩
 ·obtain ⟨g,T,fr,hg,hh⟩:=(hall 10 _ _ rfl).glob;obtain rfl:=Option.some.inj ((show Tryz.prog.globalNamed "sextet/api.ErrState" =some 1 by kernel_rfl).symm.trans hg);exact ⟨T,fr,hh⟩
 ·obtain ⟨g,T,fr,hg,hh⟩:=(hall 11 _ _ rfl).glob;obtain rfl:=Option.some.inj ((show Tryz.prog.globalNamed "sextet/api.ErrConflict" =some 11 by kernel_rfl).symm.trans hg);exact ⟨T,fr,hh⟩
 ·obtain ⟨g,T,fr,hg,hh⟩:=(hall 12 _ _ rfl).glob;obtain rfl:=Option.some.inj ((show Tryz.prog.globalNamed "sextet/api.ErrWaits" =some 12 by kernel_rfl).symm.trans hg);exact ⟨T,fr,hh⟩
 ·obtain ⟨g,T,fr,hg,hh⟩:=(hall 13 _ _ rfl).glob;obtain rfl:=Option.some.inj ((show Tryz.prog.globalNamed "sextet/api.ErrLimit" =some 13 by kernel_rfl).symm.trans hg);exact ⟨T,fr,hh⟩
 ·obtain ⟨g,T,fr,hg,hh⟩:=(hall 14 _ _ rfl).glob;obtain rfl:=Option.some.inj ((show Tryz.prog.globalNamed "sextet/api.ErrFenced" =some 14 by kernel_rfl).symm.trans hg);exact ⟨T,fr,hh⟩
 ·obtain ⟨g,T,fr,hg,hh⟩:=(hall 15 _ _ rfl).glob;obtain rfl:=Option.some.inj ((show Tryz.prog.globalNamed "sextet/api.ErrWord" =some 15 by kernel_rfl).symm.trans hg);exact ⟨T,fr,hh⟩
 obtain ⟨g,T,fr,hg,hh⟩:=(hall 16 _ _ rfl).glob;obtain rfl:=Option.some.inj ((show Tryz.prog.globalNamed "sextet/api.ErrNumber" =some 16 by kernel_rfl).symm.trans hg);exact ⟨T,fr,hh⟩
theorem segFalls_contract (H:Type) (enc:TypeId×Value->H) (W:World) (base:Nat) (args:Array Value) (ds gs:List (DataW H)) (before:List MemPlace)
  (hval: ∀(j:Nat) t v,Tryz.f3.params[j]? =some t->args[j]? =some v->Value.okWide Tryz.prog W .any base t v)
  (hW:DataW.Whole enc Tryz.prog Tryz.f3.params.toList Rows.segFallsSpec.vars false W args.toList ds gs before) (hL:laidMetH Tryz.prog Rows.segFallsRow.laid W) :
  Calls Tryz.prog 3 args W fun e W'=> ∃v,e= .returned v/\Rows.segFallsSpec.post enc Tryz.prog Tryz.f3 false true false false W args v W':=by
 have hW':=hW;obtain ⟨p,q,hA0,hV,rfl,hfz,hnd⟩:=hW;have hA:DataW.TrodAll enc Tryz.prog W 0 (fun _=>true) true Tryz.f3.params.toList args.toList ds p:=hA0;rw [Tryz.params3] at hA hval;obtain ⟨v0,vs0,d0,ds0,p0,q0,hargs,rfl,rfl,h0,r0⟩:=trodAll_cons hA;obtain ⟨v1,vs1,d1,ds1,p1,q1,rfl,rfl,rfl,h1,r1⟩:=trodAll_cons r0;obtain ⟨v2,vs2,d2,ds2,p2,q2,rfl,rfl,rfl,h2,r2⟩:=trodAll_cons r1;obtain ⟨rfl,rfl,rfl⟩:=trodAll_nil r2;obtain rfl:args= #[v0,v1,v2]:=by cases args;simp_all
 obtain ⟨rfl,rfl⟩:=trodVars_none hV;have k0:=h0;have lt0: ∀x∈p0,x.block<W.heap.size:=by obtain ⟨m,hm⟩:=k0;exact DataW.trod_lt m _ _ _ hm
 obtain ⟨b0,rb0,bl0⟩:=open_ints Tryz.underlying22 Tryz.underlying3 (by kernel_rfl) (hval 0 22 v0 rfl rfl) h0;have k1:=h1;have lt1: ∀x∈p1,x.block<W.heap.size:=by obtain ⟨m,hm⟩:=k1;exact DataW.trod_lt m _ _ _ hm
 obtain ⟨b1,rb1,bl1⟩:=open_ints Tryz.underlying22 Tryz.underlying3 (by kernel_rfl) (hval 1 22 v1 rfl rfl) h1;have k2:=h2;have lt2: ∀x∈p2,x.block<W.heap.size:=by obtain ⟨m,hm⟩:=k2;exact DataW.trod_lt m _ _ _ hm
 obtain ⟨b2,rb2,bl2⟩:=open_ints Tryz.underlying22 Tryz.underlying3 (by kernel_rfl) (hval 2 22 v2 rfl rfl) h2;clear hA0;obtain ⟨ad,hne,hcl,g101,g102,g103,g104,g105,g106,g107,g108,g109,g110,g111,g112,g113,g114,g115,g116,g117⟩:=segFalls_sents hL;have hS:Sents (fun b=>W.heap[b]?) ad:=⟨g101,g102,g103,g104,g105,g106,g107,g108,g109,g110,g111,g112,g113,g114,g115,g116,g117,fun j k h1 h2 h3 h4 hjk=>hne j k (segFalls_inj h1 h2 h3 h4 hjk) (segFalls_lt h1 h2) (segFalls_lt h3 h4),fun k h1 h2=>hcl k (segFalls_lt h1 h2)⟩;refine ((SegFalls_spec (Inv.start W) hS rb0 rb1 rb2)).mono fun e W' hr=> ?_;obtain ⟨r,rfl,rfl,D',hD,I⟩:=ans_true hr;have bel:=below_of I hD;exact ⟨_,rfl,_,_,_, [],_, [],hW',trodAll_mk1 (shut_bool Tryz.underlying4 _),(trodAll_cons_mk (Below.trod segFalls_laidOut (by kernel_rfl) (of_decide_eq_true (by kernel_rfl)) k0 bel lt0) (trodAll_cons_mk (Below.trod segFalls_laidOut (by kernel_rfl) (of_decide_eq_true (by kernel_rfl)) k1 bel lt1) (trodAll_cons_mk (Below.trod segFalls_laidOut (by kernel_rfl) (of_decide_eq_true (by kernel_rfl)) k2 bel lt2) trodAll_mk0))),rfl,bel.frame _,fun h=>by cases h⟩
theorem segFalls_reads (os:Os) {H:Type} (enc:TypeId×Value->H): ∃x,DataW.whole enc Tryz.prog ((World.doorLaid Tryz.prog 332 os).forCall (fun _ _=>0) ⟨#[], #[.slice none 0 0, .slice none 0 0, .slice none 0 0], []⟩).memory Tryz.f3.params.toList Rows.segFallsSpec.vars false (#[.slice none 0 0, .slice none 0 0, .slice none 0 0]:Array Value).toList 8=some ([.nil, .nil, .nil], [],x):=
 ⟨[],by kernel_rfl⟩
theorem segFalls_met (os:Os):laidMetH Tryz.prog Rows.segFallsRow.laid ((World.doorLaid Tryz.prog 332 os).forCall (fun _ _=>0) ⟨#[], #[.slice none 0 0, .slice none 0 0, .slice none 0 0], []⟩).memory:=
 laidMetH_of_parts3 (fuel:=8) (laidMet_of_run' 8 (by kernel_rfl) (by kernel_rfl)) (by kernel_rfl) (by kernel_rfl)
theorem segFalls_lifted (os:Os) (started:os.Started) (H:Type) (enc:TypeId×Value->H) (F:Stop.Interp) :
  ReturnsInHanded {} Tryz.checked os 3 .any ((OpenSpec.ofChange Rows.segFallsSpec).preRow enc Tryz.prog Tryz.f3 Rows.segFallsRow.domain false Rows.segFallsRow.laid) (((OpenSpec.ofChange Rows.segFallsSpec).at F).post enc Tryz.prog Tryz.f3 false true false false):=by
 obtain ⟨places,hx⟩:=segFalls_reads os enc;refine returnsInHanded_of_row (C:=Tryz.checked) (s:=OpenSpec.ofChange Rows.segFallsSpec) segFalls_own started (by kernel_rfl) Tryz.func3
  (witness_row_shaped (enc:=enc) (C:=Tryz.checked) (World.doorLaid Tryz.prog 332 os) #[.slice none 0 0, .slice none 0 0, .slice none 0 0] rfl (World.shaped_of_RefB (by kernel_rfl) (by kernel_rfl)) (by kernel_rfl)
   (OpenSpec.preRow_of_cond 8 hx (by kernel_rfl) (fun k hk=>by cases hk) (by kernel_rfl) (segFalls_met os))) ?_
 intro W base args ds gs before hval hW _ hcond _ hL _ _;exact segFalls_contract H enc W base args ds gs before hval hW hL
theorem segFalls_said:Rows.SegFallsSaid:=
 OpenClaim.holds_of_cond 3 Tryz.f3 rfl rfl rfl rfl rfl rfl rfl ⟨rfl,rfl,rfl,rfl,rfl⟩ rfl rfl rfl rfl rfl (by kernel_rfl) Tryz.func3 (by kernel_rfl)
  (of_decide_eq_true (by kernel_rfl)) (by unfold Func.isWrapper;first|(rw [if_pos (by decide+kernel)];kernel_rfl)|(rw [if_neg (by decide+kernel)];exact ⟨rfl,rfl⟩))
  (fun os started H enc _ F=>by rw [OpenClaim.pre_eq_preRow];exact segFalls_lifted os started H enc F)
theorem segFalls_plain (f:FuncId) (fn:Func) (hf:Tryz.pinned.checked.prog.funcNamed "sextet/sextetlaw13.SegFalls" =some f) (hfn:Tryz.pinned.checked.prog.funcs[f]? =some fn) :
  true=Tryz.pinned.checked.prog.looks []/\ ∀(j:Nat) t,fn.params[j]? =some t->Tryz.pinned.checked.prog.wantsStandIn t=false:=by
 obtain rfl:f=3:=Option.some.inj ((show Tryz.prog.funcNamed "sextet/sextetlaw13.SegFalls" =some 3 by kernel_rfl).symm.trans hf) |>.symm;obtain rfl:fn=Tryz.f3:=(Option.some.inj (Tryz.func3.symm.trans hfn)).symm;refine ⟨by kernel_rfl,fun j t ht=> ?_⟩;rw [Tryz.params3] at ht;have hm:t∈ [22,22,22]:=by simpa using Array.mem_of_getElem? ht
 have hall:([22,22,22].all fun u=> !Tryz.prog.wantsStandIn u)=true:=by kernel_rfl
 exact (show Tryz.prog.wantsStandIn t=false by simpa using List.all_eq_true.1 hall t hm)
theorem segFalls_holds:Rows.SegFallsCardSaid:=
 Claim7.holds_tied_plain_at .later [] _ _ _ _ segFalls_said (fun _ h=>by cases h) (by kernel_rfl) (fun _ h=>by cases h) segFalls_row_tie rfl ⟨rfl,rfl⟩ (by kernel_rfl) rfl segFalls_plain (by kernel_rfl)
end Go.Proofs.YtikllmoofngjnaaGreatDoor.B
namespace Go.Proofs.YtikllmoofngjnaaGreatDoor
/-- The card, under a short name. -/
theorem segFalls_holds : Rows.SegFallsCardSaid := B.segFalls_holds
#print axioms segFalls_holds
end Go.Proofs.YtikllmoofngjnaaGreatDoor
