/- The statement Rows.TreeRowsCardSaid is proved here, for every input, as its card states it; the package variables that its row lists are as the program's text lays them. -/
import Derived.Test.YtbogbnkckofpdaaDoorSLaid
import Derived.Test.YtbogbnkckofpdaaDoorTTreeRows
import Derived.Test.YtbogbnkckofpdaaDoorCards
import Derived.Test.YtbogbnkckofpdaaDoorTie
namespace Go.Proofs.YtbogbnkckofpdaaDoor.B
open Go Go.ChangeShapes Go.WideShapes Go.ChangeAt Go.RowKit Go.Proofs Go.Proofs.YtbogbnkckofpdaaDoor
set_option linter.unusedVariables false
set_option maxRecDepth 100000
theorem treeRows_own : ownKnob Tryd.prog.godebug = none := by kernel_rfl
theorem treeRows_laidOut : laidOutB Tryd.prog = true := by kernel_rfl
theorem treeRows_ptr (u : TypeId) (h : Tryd.prog.typeName? 3 u = some "*errors.errorString") : u = 186 :=
 typeName_ptr_named (nm := "errors.errorString") (by rw [show "*" ++ "errors.errorString" = "*errors.errorString" by decide]; kernel_rfl) (by kernel_rfl) (by decide) u (by rw [show "*" ++ "errors.errorString" = "*errors.errorString" by decide]; exact h)
def treeRows_idx : Nat → Nat
 | 103 => 0
 | 104 => 1
 | 105 => 2
 | 106 => 3
 | 109 => 4
 | 113 => 5
 | _ => 6
theorem treeRows_sents {W : World} (h : laidMetH Tryd.prog Rows.treeRowsRow.laid W) :
  ∃ ad : Nat → Addr, (∀ j k, treeRows_idx j ≠ treeRows_idx k → treeRows_idx j < 6 → treeRows_idx k < 6 → ad j ≠ ad k) ∧ (∀ k, treeRows_idx k < 6 → ∃ c T, W.heap[(ad k).block]? = some (.cells c T (0, 0))) ∧
   GlobIs (fun b => W.heap[b]?) 1 (errV ad 103) ∧
   GlobIs (fun b => W.heap[b]?) 5 (errV ad 104) ∧
   GlobIs (fun b => W.heap[b]?) 0 (errV ad 105) ∧
   GlobIs (fun b => W.heap[b]?) 4 (errV ad 106) ∧
   GlobIs (fun b => W.heap[b]?) 10 (errV ad 109) ∧
   GlobIs (fun b => W.heap[b]?) 3 (errV ad 113) := by
 rw [MakeChecks.laidMetH_plain _ _ _ (by kernel_rfl)] at h
 obtain ⟨al, hl, hne, hall⟩ := sents_of_laid (ti := 25) (tp := 186) (te := 203) Tryd.underlying25 treeRows_ptr Tryd.underlying186 Tryd.underlying203 rfl rfl Tryd.underlying9 (by kernel_rfl) (by kernel_rfl) h (by
  intro x hx
  simp only [Rows.treeRowsRow, List.mem_cons, List.not_mem_nil, or_false] at hx
  rcases hx with rfl | rfl | rfl | rfl | rfl | rfl
  all_goals exact ⟨⟨_, rfl⟩, by kernel_rfl⟩)
 have hl' : al.length = 6 := hl
 refine ⟨fun k => al.getD (treeRows_idx k) default, fun j k hjk hj hk => ?_, fun k hk => ?_, ?_, ?_, ?_, ?_, ?_, ?_⟩
 ·rcases Nat.lt_or_gt_of_ne hjk with h1 | h1
  ·exact hne _ _ h1 (show _ < 6 from hk)
  exact fun e => hne _ _ h1 (show _ < 6 from hj) e.symm
 ·obtain ⟨x, hx⟩ : ∃ x, Rows.treeRowsRow.laid[treeRows_idx k]? = some x := ⟨_, List.getElem?_eq_getElem (show _ < 6 from hk)⟩
  exact (hall _ x.1 x.2 hx).cell
 ·obtain ⟨g, T, fr, hg, hh⟩ := (hall 0 _ _ rfl).glob
  obtain rfl := Option.some.inj ((show Tryd.prog.globalNamed "sextet/api.ErrShape" = some 1 by kernel_rfl).symm.trans hg)
  exact ⟨T, fr, hh⟩
 ·obtain ⟨g, T, fr, hg, hh⟩ := (hall 1 _ _ rfl).glob
  obtain rfl := Option.some.inj ((show Tryd.prog.globalNamed "sextet/api.ErrMany" = some 5 by kernel_rfl).symm.trans hg)
  exact ⟨T, fr, hh⟩
 ·obtain ⟨g, T, fr, hg, hh⟩ := (hall 2 _ _ rfl).glob
  obtain rfl := Option.some.inj ((show Tryd.prog.globalNamed "sextet/api.ErrRange" = some 0 by kernel_rfl).symm.trans hg)
  exact ⟨T, fr, hh⟩
 ·obtain ⟨g, T, fr, hg, hh⟩ := (hall 3 _ _ rfl).glob
  obtain rfl := Option.some.inj ((show Tryd.prog.globalNamed "sextet/api.ErrKind" = some 4 by kernel_rfl).symm.trans hg)
  exact ⟨T, fr, hh⟩
 ·obtain ⟨g, T, fr, hg, hh⟩ := (hall 4 _ _ rfl).glob
  obtain rfl := Option.some.inj ((show Tryd.prog.globalNamed "sextet/api.ErrFull" = some 10 by kernel_rfl).symm.trans hg)
  exact ⟨T, fr, hh⟩
 obtain ⟨g, T, fr, hg, hh⟩ := (hall 5 _ _ rfl).glob
 obtain rfl := Option.some.inj ((show Tryd.prog.globalNamed "sextet/api.ErrWaits" = some 3 by kernel_rfl).symm.trans hg)
 exact ⟨T, fr, hh⟩
/-- What the walk gives for every argument and every world that holds the sentinels. -/
theorem treeRows_contract (H : Type) (enc : TypeId × Value → H) (W : World) (base : Nat) (args : Array Value) (ds gs : List (DataW H)) (before : List MemPlace)
  (hval : ∀ (j : Nat) t v, Tryd.f13.params[j]? = some t → args[j]? = some v → Value.okWide Tryd.prog W .any base t v)
  (hW : DataW.Whole enc Tryd.prog Tryd.f13.params.toList Rows.treeRowsSpec.vars false W args.toList ds gs before) (hL : laidMetH Tryd.prog Rows.treeRowsRow.laid W) :
  Calls Tryd.prog 13 args W fun e W' => ∃ v, e = .returned v ∧ Rows.treeRowsSpec.post enc Tryd.prog Tryd.f13 false true false false W args v W' := by
 have hW' := hW
 obtain ⟨p, q, hA0, hV, rfl, hfz, hnd⟩ := hW
 have hA : DataW.TrodAll enc Tryd.prog W 0 (fun _ => true) true Tryd.f13.params.toList args.toList ds p := hA0
 rw [Tryd.params13] at hA hval
 obtain ⟨v0, vs0, d0, ds0, p0, q0, hargs, rfl, rfl, h0, r0⟩ := trodAll_cons hA
 obtain ⟨v1, vs1, d1, ds1, p1, q1, rfl, rfl, rfl, h1, r1⟩ := trodAll_cons r0
 obtain ⟨v2, vs2, d2, ds2, p2, q2, rfl, rfl, rfl, h2, r2⟩ := trodAll_cons r1
 obtain ⟨rfl, rfl, rfl⟩ := trodAll_nil r2
 obtain rfl : args = #[v0, v1, v2] := by cases args; simp_all
 obtain ⟨rfl, rfl⟩ := trodVars_none hV
 obtain ⟨a0, rfl, rfl, rfl, w0⟩ := open_int Tryd.underlying3 (hval 0 3 v0 rfl rfl) h0
 obtain ⟨a1, rfl, rfl, rfl, w1⟩ := open_int Tryd.underlying3 (hval 1 3 v1 rfl rfl) h1
 obtain ⟨a2, rfl, rfl, rfl, w2⟩ := open_int Tryd.underlying3 (hval 2 3 v2 rfl rfl) h2
 clear hA0
 obtain ⟨ad, hne, hcl, g103, g104, g105, g106, g109, g113⟩ := treeRows_sents hL
 have hS : TSents (fun b => W.heap[b]?) ad := ⟨g103, g104, g105, g106, g109, g113⟩
 refine ((TreeRows_spec (Inv.start W) hS a0 a1 a2)).mono fun e W' hr => ?_
 obtain ⟨r, rfl, rfl, D', hD, hI⟩ := ans_true hr
 have bel := below_of hI hD
 exact ⟨_, rfl, _, _, _, [], _, [], hW', trodAll_mk1 (shut_bool Tryd.underlying4 _), (trodAll_cons_mk (shut_int Tryd.underlying3 w0) (trodAll_cons_mk (shut_int Tryd.underlying3 w1) (trodAll_cons_mk (shut_int Tryd.underlying3 w2) trodAll_mk0))), rfl, bel.frame _, fun h => by cases h⟩
theorem treeRows_reads (os : Os) {H : Type} (enc : TypeId × Value → H) : ∃ x, DataW.whole enc Tryd.prog ((World.doorLaid Tryd.prog 332 os).forCall (fun _ _ => 0) ⟨#[], #[.int .i64 0, .int .i64 0, .int .i64 0], []⟩).memory Tryd.f13.params.toList Rows.treeRowsSpec.vars false (#[.int .i64 0, .int .i64 0, .int .i64 0] : Array Value).toList 8 = some ([.lit (.int .i64 0), .lit (.int .i64 0), .lit (.int .i64 0)], [], x) :=
 ⟨[], by kernel_rfl⟩
theorem treeRows_met (os : Os) : laidMetH Tryd.prog Rows.treeRowsRow.laid ((World.doorLaid Tryd.prog 332 os).forCall (fun _ _ => 0) ⟨#[], #[.int .i64 0, .int .i64 0, .int .i64 0], []⟩).memory :=
 laidMetH_of_parts3 (fuel := 8) (laidMet_of_run' 8 (by kernel_rfl) (by kernel_rfl)) (by kernel_rfl) (by kernel_rfl)
theorem treeRows_lifted (os : Os) (started : os.Started) (H : Type) (enc : TypeId × Value → H) (F : Stop.Interp) :
  ReturnsInHanded {} Tryd.checked os 13 .any ((OpenSpec.ofChange Rows.treeRowsSpec).preRow enc Tryd.prog Tryd.f13 Rows.treeRowsRow.domain false Rows.treeRowsRow.laid) (((OpenSpec.ofChange Rows.treeRowsSpec).at F).post enc Tryd.prog Tryd.f13 false true false false) := by
 obtain ⟨places, hx⟩ := treeRows_reads os enc
 refine returnsInHanded_of_row (C := Tryd.checked) (s := OpenSpec.ofChange Rows.treeRowsSpec) treeRows_own started (by kernel_rfl) Tryd.func13
  (witness_row_shaped (enc := enc) (C := Tryd.checked) (World.doorLaid Tryd.prog 332 os) #[.int .i64 0, .int .i64 0, .int .i64 0] rfl (World.shaped_of_RefB (by kernel_rfl) (by kernel_rfl)) (by kernel_rfl)
   (OpenSpec.preRow_of_cond 8 hx (by kernel_rfl) (fun k hk => by cases hk) (by kernel_rfl) (treeRows_met os))) ?_
 intro W base args ds gs before hval hW _ hcond _ hL _ _
 exact treeRows_contract H enc W base args ds gs before hval hW hL
theorem treeRows_said : Rows.TreeRowsSaid :=
 OpenClaim.holds_of_cond 13 Tryd.f13 rfl rfl rfl rfl rfl rfl rfl ⟨rfl, rfl, rfl, rfl, rfl⟩ rfl rfl rfl rfl rfl (by kernel_rfl) Tryd.func13 (by kernel_rfl)
  (of_decide_eq_true (by kernel_rfl)) (by unfold Func.isWrapper; first | (rw [if_pos (by decide +kernel)]; kernel_rfl) | (rw [if_neg (by decide +kernel)]; exact ⟨rfl, rfl⟩))
  (fun os started H enc _ F => by rw [OpenClaim.pre_eq_preRow]; exact treeRows_lifted os started H enc F)
theorem treeRows_plain (f : FuncId) (fn : Func) (hf : Tryd.pinned.checked.prog.funcNamed "sextet/sextetlaw21.TreeRows" = some f) (hfn : Tryd.pinned.checked.prog.funcs[f]? = some fn) :
  true = Tryd.pinned.checked.prog.looks [] ∧ ∀ (j : Nat) t, fn.params[j]? = some t → Tryd.pinned.checked.prog.wantsStandIn t = false := by
 obtain rfl : f = 13 := Option.some.inj ((show Tryd.prog.funcNamed "sextet/sextetlaw21.TreeRows" = some 13 by kernel_rfl).symm.trans hf) |>.symm
 obtain rfl : fn = Tryd.f13 := (Option.some.inj (Tryd.func13.symm.trans hfn)).symm
 refine ⟨by kernel_rfl, fun j t ht => ?_⟩
 rw [Tryd.params13] at ht
 have hm : t ∈ [3, 3, 3] := by simpa using Array.mem_of_getElem? ht
 have hall : ([3, 3, 3].all fun u => !Tryd.prog.wantsStandIn u) = true := by kernel_rfl
 exact (show Tryd.prog.wantsStandIn t = false by simpa using List.all_eq_true.1 hall t hm)
/-- The card. -/
theorem treeRows_holds : Rows.TreeRowsCardSaid :=
 Claim7.holds_tied_plain_at .later [] _ _ _ _ treeRows_said (fun _ h => by cases h) (by kernel_rfl) (fun _ h => by cases h) treeRows_row_tie rfl ⟨rfl, rfl⟩ (by kernel_rfl) rfl treeRows_plain (by kernel_rfl)
end Go.Proofs.YtbogbnkckofpdaaDoor.B
namespace Go.Proofs.YtbogbnkckofpdaaDoor
/-- The card, under a short name. -/
theorem treeRows_holds : Rows.TreeRowsCardSaid := B.treeRows_holds
#print axioms treeRows_holds
end Go.Proofs.YtbogbnkckofpdaaDoor
