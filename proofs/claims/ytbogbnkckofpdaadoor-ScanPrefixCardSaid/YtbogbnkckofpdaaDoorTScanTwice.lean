/- What functions of the program compute, each function once: steps over the model, and the plain law of it. -/
import Derived.Test.YtbogbnkckofpdaaDoorTScanFrom
namespace Go.Proofs.YtbogbnkckofpdaaDoor.B
open Go Go.Proofs
set_option linter.unusedVariables false
set_option linter.unusedSimpArgs false
set_option maxRecDepth 20000
set_option maxHeartbeats 8000000
namespace FTScanTwice
theorem agg_69 : aggSize Tryd.prog 69 = some 2 := by kernel_rfl
theorem ent_18 : enters Tryd.prog 18 = true := by kernel_rfl
theorem ent_31 : enters Tryd.prog 31 = true := by kernel_rfl
theorem ent_38 : enters Tryd.prog 38 = true := by kernel_rfl
theorem ent_39 : enters Tryd.prog 39 = true := by kernel_rfl
theorem ent_41 : enters Tryd.prog 41 = true := by kernel_rfl
theorem ent_42 : enters Tryd.prog 42 = true := by kernel_rfl
theorem fo_69_0 : fieldOff Tryd.prog 69 0 = some 0 := by kernel_rfl
theorem fo_69_1 : fieldOff Tryd.prog 69 1 = some 1 := by kernel_rfl
theorem scal_22 : isScal Tryd.prog 22 = true := by kernel_rfl
theorem scal_3 : isScal Tryd.prog 3 = true := by kernel_rfl
theorem scal_4 : isScal Tryd.prog 4 = true := by kernel_rfl
theorem scal_52 : isScal Tryd.prog 52 = true := by kernel_rfl
theorem scal_65 : isScal Tryd.prog 65 = true := by kernel_rfl
theorem sz_3 : (Tryd.prog.info? 3).map (·.size) = some 1 := by kernel_rfl
theorem sz_4 : (Tryd.prog.info? 4).map (·.size) = some 1 := by kernel_rfl
theorem sz_65 : (Tryd.prog.info? 65).map (·.size) = some 1 := by kernel_rfl
theorem sz_69 : (Tryd.prog.info? 69).map (·.size) = some 2 := by kernel_rfl
theorem zer_3 : (Tryd.prog.info? 3).bind (·.zero) = some (.int .i64 0) := by kernel_rfl
theorem zer_4 : (Tryd.prog.info? 4).bind (·.zero) = some (.bool false) := by kernel_rfl
theorem zer_65 : (Tryd.prog.info? 65).bind (·.zero) = some (.slice none 0 0) := by kernel_rfl
theorem zer_69 : (Tryd.prog.info? 69).bind (·.zero) = some (.agg #[.slice none 0 0, .slice none 0 0]) := by kernel_rfl
end FTScanTwice
open FTScanTwice
theorem DR.at_eq {D : Sto} {v : Value} {xs ys : Ens} (h : DR 2 EnR D v xs) (e : xs = ys) : DR 2 EnR D v ys := e ▸ h
theorem SameEntry_spec {w0 w : World} {D : Sto} {ss : List Seg} (hI : Inv w0 D ss w) {k1 v1 k2 v2 : Value} {e1 e2 : Bs × Bs} (hk1 : RB D k1 e1.1) (hv1 : RB D v1 e1.2) (hk2 : RB D k2 e2.1) (hv2 : RB D v2 e2.2) (hl1 : e1.1.length ≤ 100000) (hl2 : e1.2.length ≤ 100000) :
    Calls Tryd.prog 42 #[.agg #[k1, v1], .agg #[k2, v2]] w (Ret fun r w' => Ans (e1.1 = e2.1 ∧ e1.2 = e2.2) (Inv w0 D ss) r w') := by
  obtain ⟨A1, c2, rfl, _⟩ := hk1.slice
  obtain ⟨A3, c4, rfl, _⟩ := hv1.slice
  obtain ⟨A5, c6, rfl, _⟩ := hk2.slice
  obtain ⟨A7, c8, rfl, _⟩ := hv2.slice
  refine enter (N := 21) Tryd.func42 rfl rfl rfl ?_
  intro a hE
  refine wsr ?_
  refine l_step rfl (f_box (cs := #[_, _]) hE hI rfl rfl rfl rfl rfl ?_)
  clear hI hE a w; intro a b9 w hE hI
  refine l_step rfl (f_box (cs := #[_, _]) hE hI rfl rfl rfl rfl rfl ?_)
  clear hI hE a w; intro a b10 w hE hI
  refine qa hE rfl rfl rfl rfl rfl ?_; clear hE a; intro a hE
  refine wnt ?_
  refine wsr ?_
  refine qs hE rfl rfl rfl (p_fieldAddr (m := 0) rfl fo_69_0 rfl) ?_; clear hE a; intro a hE
  refine ql hE rfl rfl rfl (f_load rfl scal_22 (hI.seg 1 rfl) rfl) ?_; clear hE a; intro a hE
  refine qs hE rfl rfl rfl (p_fieldAddr (m := 0) rfl fo_69_0 rfl) ?_; clear hE a; intro a hE
  refine ql hE rfl rfl rfl (f_load rfl scal_22 (hI.seg 0 rfl) rfl) ?_; clear hE a; intro a hE
  refine l_step rfl (o_call hE rfl rfl rfl rfl ent_18 (SameBytes_spec hI hk1 hk2 (by omega)) ?_)
  clear hI hE a
  rintro r w h a hE; rcases h with ⟨rfl, h1, hI⟩ | ⟨rfl, h1, hI⟩
  · skip
    refine qa hE rfl rfl rfl rfl rfl ?_; clear hE a; intro a hE
    refine wnt ?_
    refine wsr ?_
    refine qs hE rfl rfl rfl (p_fieldAddr (m := 1) rfl fo_69_1 rfl) ?_; clear hE a; intro a hE
    refine ql hE rfl rfl rfl (f_load rfl scal_22 (hI.seg 1 rfl) rfl) ?_; clear hE a; intro a hE
    refine qs hE rfl rfl rfl (p_fieldAddr (m := 1) rfl fo_69_1 rfl) ?_; clear hE a; intro a hE
    refine ql hE rfl rfl rfl (f_load rfl scal_22 (hI.seg 0 rfl) rfl) ?_; clear hE a; intro a hE
    refine l_step rfl (o_call hE rfl rfl rfl rfl ent_18 (SameBytes_spec hI hv1 hv2 (by omega)) ?_)
    clear hI hE a
    rintro r w h a hE; rcases h with ⟨rfl, h2, hI⟩ | ⟨rfl, h2, hI⟩
    · skip
      refine qa hE rfl rfl rfl rfl rfl ?_; clear hE a; intro a hE
      refine wnt ?_
      refine wsr ?_
      refine qm hE rfl rfl rfl rfl rfl ?_; clear hE a; intro a hE
      refine qm hE rfl rfl rfl rfl rfl ?_; clear hE a; intro a hE
      refine l_go hE rfl (o_pure hE rfl rfl (p_move rfl).run ?_); clear hE a; intro a hE
      refine qs hE rfl rfl rfl (p_pick (b := true) rfl rfl) ?_; clear hE a; intro a hE
      refine qa hE rfl rfl rfl rfl rfl ?_; clear hE a; intro a hE
      refine wnt ?_
      refine wp_ret ?_
      refine ret1 rfl hE rfl ?_
      exact .inl ⟨rfl, ⟨h1, h2⟩, hI.drop.drop⟩
    refine qa hE rfl rfl rfl rfl rfl ?_; clear hE a; intro a hE
    refine wnt ?_
    refine wsr ?_
    refine qm hE rfl rfl rfl rfl rfl ?_; clear hE a; intro a hE
    refine qm hE rfl rfl rfl rfl rfl ?_; clear hE a; intro a hE
    refine l_go hE rfl (o_pure hE rfl rfl (p_move rfl).run ?_); clear hE a; intro a hE
    refine qs hE rfl rfl rfl (p_pick (b := true) rfl rfl) ?_; clear hE a; intro a hE
    refine qa hE rfl rfl rfl rfl rfl ?_; clear hE a; intro a hE
    refine wnt ?_
    refine wp_ret ?_
    refine ret1 rfl hE rfl ?_
    exact .inr ⟨rfl, fun h => h2 h.2, hI.drop.drop⟩
  refine qa hE rfl rfl rfl rfl rfl ?_; clear hE a; intro a hE
  refine wnt ?_
  refine wsr ?_
  refine qs hE rfl rfl rfl (p_fieldAddr (m := 1) rfl fo_69_1 rfl) ?_; clear hE a; intro a hE
  refine ql hE rfl rfl rfl (f_load rfl scal_22 (hI.seg 1 rfl) rfl) ?_; clear hE a; intro a hE
  refine qs hE rfl rfl rfl (p_fieldAddr (m := 1) rfl fo_69_1 rfl) ?_; clear hE a; intro a hE
  refine ql hE rfl rfl rfl (f_load rfl scal_22 (hI.seg 0 rfl) rfl) ?_; clear hE a; intro a hE
  refine l_step rfl (o_call hE rfl rfl rfl rfl ent_18 (SameBytes_spec hI hv1 hv2 (by omega)) ?_)
  clear hI hE a
  rintro r w h a hE; rcases h with ⟨rfl, h2, hI⟩ | ⟨rfl, h2, hI⟩
  · skip
    refine qa hE rfl rfl rfl rfl rfl ?_; clear hE a; intro a hE
    refine wnt ?_
    refine wsr ?_
    refine qm hE rfl rfl rfl rfl rfl ?_; clear hE a; intro a hE
    refine qm hE rfl rfl rfl rfl rfl ?_; clear hE a; intro a hE
    refine l_skip hE rfl rfl rfl ?_; clear hE a; intro a hE
    refine qs hE rfl rfl rfl (p_pick (b := false) rfl rfl) ?_; clear hE a; intro a hE
    refine qa hE rfl rfl rfl rfl rfl ?_; clear hE a; intro a hE
    refine wnt ?_
    refine wp_ret ?_
    refine ret1 rfl hE rfl ?_
    exact .inr ⟨rfl, fun h => h1 h.1, hI.drop.drop⟩
  refine qa hE rfl rfl rfl rfl rfl ?_; clear hE a; intro a hE
  refine wnt ?_
  refine wsr ?_
  refine qm hE rfl rfl rfl rfl rfl ?_; clear hE a; intro a hE
  refine qm hE rfl rfl rfl rfl rfl ?_; clear hE a; intro a hE
  refine l_skip hE rfl rfl rfl ?_; clear hE a; intro a hE
  refine qs hE rfl rfl rfl (p_pick (b := false) rfl rfl) ?_; clear hE a; intro a hE
  refine qa hE rfl rfl rfl rfl rfl ?_; clear hE a; intro a hE
  refine wnt ?_
  refine wp_ret ?_
  refine ret1 rfl hE rfl ?_
  exact .inr ⟨rfl, fun h => h1 h.1, hI.drop.drop⟩
end Go.Proofs.YtbogbnkckofpdaaDoor.B
