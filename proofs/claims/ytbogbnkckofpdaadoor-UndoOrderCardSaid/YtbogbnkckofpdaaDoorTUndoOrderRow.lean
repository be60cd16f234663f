/- The statement Rows.UndoOrderCardSaid is proved here, for every input, as its card states it; the package variables that its row lists are as the program's text lays them. -/
import Derived.Test.YtbogbnkckofpdaaDoorSLaid
import Derived.Test.YtbogbnkckofpdaaDoorTUndoOrder
import Derived.Test.YtbogbnkckofpdaaDoorCards
import Derived.Test.YtbogbnkckofpdaaDoorTie
namespace Go.Proofs.YtbogbnkckofpdaaDoor.B
open Go Go.ChangeShapes Go.WideShapes Go.ChangeAt Go.RowKit Go.Proofs Go.Proofs.YtbogbnkckofpdaaDoor
set_option linter.unusedVariables false
set_option maxRecDepth 100000
theorem undoOrder_own : ownKnob Tryd.prog.godebug = none := by kernel_rfl
theorem undoOrder_laidOut : laidOutB Tryd.prog = true := by kernel_rfl
theorem undoOrder_ptr (u : TypeId) (h : Tryd.prog.typeName? 3 u = some "*errors.errorString") : u = 186 :=
  typeName_ptr_named (nm := "errors.errorString") (by rw [show "*" ++ "errors.errorString" = "*errors.errorString" by decide]; kernel_rfl) (by kernel_rfl) (by decide) u (by rw [show "*" ++ "errors.errorString" = "*errors.errorString" by decide]; exact h)
def undoOrder_idx : Nat → Nat
  | 105 => 0
  | _ => 1
theorem undoOrder_sents {W : World} (h : laidMetH Tryd.prog Rows.undoOrderRow.laid W) :
    ∃ ad : Nat → Addr, (∀ j k, undoOrder_idx j ≠ undoOrder_idx k → undoOrder_idx j < 1 → undoOrder_idx k < 1 → ad j ≠ ad k) ∧ (∀ k, undoOrder_idx k < 1 → ∃ c T, W.heap[(ad k).block]? = some (.cells c T (0, 0))) ∧
      GlobIs (fun b => W.heap[b]?) 0 (errV ad 105) := by
  rw [MakeChecks.laidMetH_plain _ _ _ (by kernel_rfl)] at h
  obtain ⟨al, hl, hne, hall⟩ := sents_of_laid (ti := 25) (tp := 186) (te := 203) Tryd.underlying25 undoOrder_ptr Tryd.underlying186 Tryd.underlying203 rfl rfl Tryd.underlying9 (by kernel_rfl) (by kernel_rfl) h (by
    intro x hx
    simp only [Rows.undoOrderRow, List.mem_cons, List.not_mem_nil, or_false] at hx
    subst hx
    all_goals exact ⟨⟨_, rfl⟩, by kernel_rfl⟩)
  have hl' : al.length = 1 := hl
  refine ⟨fun k => al.getD (undoOrder_idx k) default, fun j k hjk hj hk => ?_, fun k hk => ?_, ?_⟩
  · rcases Nat.lt_or_gt_of_ne hjk with h1 | h1
    · exact hne _ _ h1 (show _ < 1 from hk)
    · exact fun e => hne _ _ h1 (show _ < 1 from hj) e.symm
  · obtain ⟨x, hx⟩ : ∃ x, Rows.undoOrderRow.laid[undoOrder_idx k]? = some x := ⟨_, List.getElem?_eq_getElem (show _ < 1 from hk)⟩
    exact (hall _ x.1 x.2 hx).cell
  · obtain ⟨g, T, fr, hg, hh⟩ := (hall 0 _ _ rfl).glob
    obtain rfl := Option.some.inj ((show Tryd.prog.globalNamed "sextet/api.ErrRange" = some 0 by kernel_rfl).symm.trans hg)
    exact ⟨T, fr, hh⟩
/-- What the walk gives for every argument and every world that holds the sentinels. -/
theorem undoOrder_contract (H : Type) (enc : TypeId × Value → H) (W : World) (base : Nat) (args : Array Value) (ds gs : List (DataW H)) (before : List MemPlace)
    (hval : ∀ (j : Nat) t v, Tryd.f3.params[j]? = some t → args[j]? = some v → Value.okWide Tryd.prog W .any base t v)
    (hW : DataW.Whole enc Tryd.prog Tryd.f3.params.toList Rows.undoOrderSpec.vars false W args.toList ds gs before) (hL : laidMetH Tryd.prog Rows.undoOrderRow.laid W) :
    Calls Tryd.prog 3 args W fun e W' => ∃ v, e = .returned v ∧ Rows.undoOrderSpec.post enc Tryd.prog Tryd.f3 false true false false W args v W' := by
  have hW' := hW
  obtain ⟨p, q, hA0, hV, rfl, hfz, hnd⟩ := hW
  have hA : DataW.TrodAll enc Tryd.prog W 0 (fun _ => true) true Tryd.f3.params.toList args.toList ds p := hA0
  rw [Tryd.params3] at hA hval
  obtain ⟨v0, vs0, d0, ds0, p0, q0, hargs, rfl, rfl, h0, r0⟩ := trodAll_cons hA
  obtain ⟨v1, vs1, d1, ds1, p1, q1, rfl, rfl, rfl, h1, r1⟩ := trodAll_cons r0
  obtain ⟨v2, vs2, d2, ds2, p2, q2, rfl, rfl, rfl, h2, r2⟩ := trodAll_cons r1
  obtain ⟨v3, vs3, d3, ds3, p3, q3, rfl, rfl, rfl, h3, r3⟩ := trodAll_cons r2
  obtain ⟨v4, vs4, d4, ds4, p4, q4, rfl, rfl, rfl, h4, r4⟩ := trodAll_cons r3
  obtain ⟨rfl, rfl, rfl⟩ := trodAll_nil r4
  obtain rfl : args = #[v0, v1, v2, v3, v4] := by cases args; simp_all
  obtain ⟨rfl, rfl⟩ := trodVars_none hV
  obtain ⟨a0, rfl, rfl, rfl, w0⟩ := open_int Tryd.underlying2 (hval 0 2 v0 rfl rfl) h0
  obtain ⟨a1, rfl, rfl, rfl, w1⟩ := open_int Tryd.underlying2 (hval 1 2 v1 rfl rfl) h1
  obtain ⟨a2, rfl, rfl, rfl, w2⟩ := open_int Tryd.underlying3 (hval 2 3 v2 rfl rfl) h2
  obtain ⟨a3, rfl, rfl, rfl, w3⟩ := open_int Tryd.underlying3 (hval 3 3 v3 rfl rfl) h3
  have k4 := h4
  have lt4 : ∀ x ∈ p4, x.block < W.heap.size := by obtain ⟨m, hm⟩ := k4; exact DataW.trod_lt m _ _ _ hm
  obtain ⟨b4, rb4, bl4⟩ := open_bytes Tryd.underlying22 Tryd.underlying5 (by kernel_rfl) (hval 4 22 v4 rfl rfl) h4
  clear hA0
  obtain ⟨ad, hne, hcl, g105⟩ := undoOrder_sents hL
  refine (UndoOrder_spec (Inv.start W) g105 a0 a1 a2 a3 rb4).mono fun e W' hr => ?_
  obtain ⟨r, rfl, rfl, D', hD, hI⟩ := ans_true hr
  have bel := below_of hI hD
  exact ⟨_, rfl, _, _, _, [], _, [], hW', trodAll_mk1 (shut_bool Tryd.underlying4 _), (trodAll_cons_mk (shut_int Tryd.underlying2 w0) (trodAll_cons_mk (shut_int Tryd.underlying2 w1) (trodAll_cons_mk (shut_int Tryd.underlying3 w2) (trodAll_cons_mk (shut_int Tryd.underlying3 w3) (trodAll_cons_mk (Below.trod undoOrder_laidOut (by kernel_rfl) (of_decide_eq_true (by kernel_rfl)) k4 bel lt4) trodAll_mk0))))), rfl, bel.frame _, fun h => by cases h⟩
theorem undoOrder_reads (os : Os) {H : Type} (enc : TypeId × Value → H) : ∃ x, DataW.whole enc Tryd.prog ((World.doorLaid Tryd.prog 332 os).forCall (fun _ _ => 0) ⟨#[], #[.int .i64 0, .int .i64 0, .int .i64 0, .int .i64 0, .slice none 0 0], []⟩).memory Tryd.f3.params.toList Rows.undoOrderSpec.vars false (#[.int .i64 0, .int .i64 0, .int .i64 0, .int .i64 0, .slice none 0 0] : Array Value).toList 8 = some ([.lit (.int .i64 0), .lit (.int .i64 0), .lit (.int .i64 0), .lit (.int .i64 0), .nil], [], x) :=
  ⟨[], by kernel_rfl⟩
theorem undoOrder_met (os : Os) : laidMetH Tryd.prog Rows.undoOrderRow.laid ((World.doorLaid Tryd.prog 332 os).forCall (fun _ _ => 0) ⟨#[], #[.int .i64 0, .int .i64 0, .int .i64 0, .int .i64 0, .slice none 0 0], []⟩).memory :=
  laidMetH_of_parts3 (fuel := 8) (laidMet_of_run' 8 (by kernel_rfl) (by kernel_rfl)) (by kernel_rfl) (by kernel_rfl)
theorem undoOrder_lifted (os : Os) (started : os.Started) (H : Type) (enc : TypeId × Value → H) (F : Stop.Interp) :
    ReturnsInHanded {} Tryd.checked os 3 .any ((OpenSpec.ofChange Rows.undoOrderSpec).preRow enc Tryd.prog Tryd.f3 Rows.undoOrderRow.domain false Rows.undoOrderRow.laid) (((OpenSpec.ofChange Rows.undoOrderSpec).at F).post enc Tryd.prog Tryd.f3 false true false false) := by
  obtain ⟨places, hx⟩ := undoOrder_reads os enc
  refine returnsInHanded_of_row (C := Tryd.checked) (s := OpenSpec.ofChange Rows.undoOrderSpec) undoOrder_own started (by kernel_rfl) Tryd.func3
    (witness_row_shaped (enc := enc) (C := Tryd.checked) (World.doorLaid Tryd.prog 332 os) #[.int .i64 0, .int .i64 0, .int .i64 0, .int .i64 0, .slice none 0 0] rfl (World.shaped_of_RefB (by kernel_rfl) (by kernel_rfl)) (by kernel_rfl)
      (OpenSpec.preRow_of_cond 8 hx (by kernel_rfl) (fun k hk => by cases hk) (by kernel_rfl) (undoOrder_met os))) ?_
  intro W base args ds gs before hval hW _ hcond _ hL _ _
  exact undoOrder_contract H enc W base args ds gs before hval hW hL
theorem undoOrder_said : Rows.UndoOrderSaid :=
  OpenClaim.holds_of_cond 3 Tryd.f3 rfl rfl rfl rfl rfl rfl rfl ⟨rfl, rfl, rfl, rfl, rfl⟩ rfl rfl rfl rfl rfl (by kernel_rfl) Tryd.func3 (by kernel_rfl)
    (of_decide_eq_true (by kernel_rfl)) (by unfold Func.isWrapper; first | (rw [if_pos (by decide +kernel)]; kernel_rfl) | (rw [if_neg (by decide +kernel)]; exact ⟨rfl, rfl⟩))
    (fun os started H enc _ F => by rw [OpenClaim.pre_eq_preRow]; exact undoOrder_lifted os started H enc F)
theorem undoOrder_plain (f : FuncId) (fn : Func) (hf : Tryd.pinned.checked.prog.funcNamed "sextet/sextetlaw23.UndoOrder" = some f) (hfn : Tryd.pinned.checked.prog.funcs[f]? = some fn) :
    true = Tryd.pinned.checked.prog.looks [] ∧ ∀ (j : Nat) t, fn.params[j]? = some t → Tryd.pinned.checked.prog.wantsStandIn t = false := by
  obtain rfl : f = 3 := Option.some.inj ((show Tryd.prog.funcNamed "sextet/sextetlaw23.UndoOrder" = some 3 by kernel_rfl).symm.trans hf) |>.symm
  obtain rfl : fn = Tryd.f3 := (Option.some.inj (Tryd.func3.symm.trans hfn)).symm
  refine ⟨by kernel_rfl, fun j t ht => ?_⟩
  rw [Tryd.params3] at ht
  have hm : t ∈ [2, 2, 3, 3, 22] := by simpa using Array.mem_of_getElem? ht
  have hall : ([2, 2, 3, 3, 22].all fun u => !Tryd.prog.wantsStandIn u) = true := by kernel_rfl
  exact (show Tryd.prog.wantsStandIn t = false by simpa using List.all_eq_true.1 hall t hm)
/-- The card. -/
theorem undoOrder_holds : Rows.UndoOrderCardSaid :=
  Claim7.holds_tied_plain_at .later [] _ _ _ _ undoOrder_said (fun _ h => by cases h) (by kernel_rfl) (fun _ h => by cases h) undoOrder_row_tie rfl ⟨rfl, rfl⟩ (by kernel_rfl) rfl undoOrder_plain (by kernel_rfl)
end Go.Proofs.YtbogbnkckofpdaaDoor.B
namespace Go.Proofs.YtbogbnkckofpdaaDoor
/-- The card, under a short name. -/
theorem undoOrder_holds : Rows.UndoOrderCardSaid := B.undoOrder_holds
#print axioms undoOrder_holds
end Go.Proofs.YtbogbnkckofpdaaDoor
