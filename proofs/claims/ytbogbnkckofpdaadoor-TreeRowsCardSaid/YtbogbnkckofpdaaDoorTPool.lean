/- What functions of the program compute, each function once: steps over the model, and the plain law of it. -/
import Derived.Test.YtbogbnkckofpdaaDoorTPage3
namespace Go.Proofs.YtbogbnkckofpdaaDoor.B
open Go Go.Proofs
set_option linter.unusedVariables false
set_option linter.unusedSimpArgs false
set_option maxRecDepth 20000
set_option maxHeartbeats 8000000
namespace FTPool
theorem agg_88 : aggSize Tryd.prog 88 = some 10 := by kernel_rfl
theorem built_145 : ∀ vs, Tryd.prog.built 145 vs = Instr.fill (([(0, 1), (1, 1)] : List (Nat × Nat)).toArray[·]?) ([.map none, .map none] : List Value).toArray vs := fun _ => by kernel_rfl
theorem ent_114 : enters Tryd.prog 114 = true := by kernel_rfl
theorem ent_120 : enters Tryd.prog 120 = true := by kernel_rfl
theorem ent_73 : enters Tryd.prog 73 = true := by kernel_rfl
theorem fo_145_0 : fieldOff Tryd.prog 145 0 = some 0 := by kernel_rfl
theorem fo_88_0 : fieldOff Tryd.prog 88 0 = some 0 := by kernel_rfl
theorem fo_88_1 : fieldOff Tryd.prog 88 1 = some 1 := by kernel_rfl
theorem fo_88_2 : fieldOff Tryd.prog 88 2 = some 2 := by kernel_rfl
theorem fo_88_3 : fieldOff Tryd.prog 88 3 = some 3 := by kernel_rfl
theorem fo_88_4 : fieldOff Tryd.prog 88 4 = some 4 := by kernel_rfl
theorem fo_88_5 : fieldOff Tryd.prog 88 5 = some 5 := by kernel_rfl
theorem fo_88_6 : fieldOff Tryd.prog 88 6 = some 6 := by kernel_rfl
theorem fo_88_7 : fieldOff Tryd.prog 88 7 = some 7 := by kernel_rfl
theorem fo_88_8 : fieldOff Tryd.prog 88 8 = some 8 := by kernel_rfl
theorem scal_118 : isScal Tryd.prog 118 = true := by kernel_rfl
theorem scal_2 : isScal Tryd.prog 2 = true := by kernel_rfl
theorem scal_22 : isScal Tryd.prog 22 = true := by kernel_rfl
theorem scal_25 : isScal Tryd.prog 25 = true := by kernel_rfl
theorem scal_3 : isScal Tryd.prog 3 = true := by kernel_rfl
theorem sz_22 : (Tryd.prog.info? 22).map (·.size) = some 1 := by kernel_rfl
theorem sz_88 : (Tryd.prog.info? 88).map (·.size) = some 10 := by kernel_rfl
theorem zer_88 : (Tryd.prog.info? 88).bind (·.zero) = some (.agg #[.int .i64 0, .int .i64 0, .int .i64 0, .int .i64 0, .int .i64 0, .int .i64 0, .int .i64 0, .slice none 0 0, .slice none 0 0, .bool false]) := by kernel_rfl
theorem zs_88 : (Tryd.prog.info? 88).map (fun i => (i.zero, i.size)) = some (some (.agg #[.int .i64 0, .int .i64 0, .int .i64 0, .int .i64 0, .int .i64 0, .int .i64 0, .int .i64 0, .slice none 0 0, .slice none 0 0, .bool false]), 10) := by kernel_rfl
theorem zsb_88 : (Tryd.prog.info? 88).map (fun i => (i.zero, i.size, i.bytes)) = some (some (.agg #[.int .i64 0, .int .i64 0, .int .i64 0, .int .i64 0, .int .i64 0, .int .i64 0, .int .i64 0, .slice none 0 0, .slice none 0 0, .bool false]), 10, 112) := by kernel_rfl
end FTPool
open FTPool
theorem within_spec {w0 w : World} {D : Sto} {ss : List Seg} (hI : Inv w0 D ss w) (n m : Int) :
  Calls Tryd.prog 120 #[.int .i64 n, .int .i64 m] w (Ret fun r w' => r = .bool (decide (0 ≤ n ∧ n < m)) ∧ Inv w0 D ss w') := by
 refine enter (N := 12) Tryd.func120 rfl rfl rfl ?_
 intro a hE
 refine wsr ?_
 refine za hE ?_; clear hE a; intro a hE
 refine wnt ?_
 refine wsr ?_
 refine zm hE ?_; clear hE a; intro a hE
 refine l_step rfl (o_cmp hE rfl rfl rfl rfl rfl rfl ?_ ?_)
 ·intro hc_1_1; replace hc_1_1 := geq_t hc_1_1; clear hE a; intro a hE
  refine zm hE ?_; clear hE a; intro a hE
  refine gs hE (p_move rfl) ?_; clear hE a; intro a hE
  refine gs hE (p_move rfl) ?_; clear hE a; intro a hE
  refine l_go hE rfl (o_cmp hE rfl rfl rfl rfl rfl rfl ?_ ?_)
  ·intro hc_1_5; replace hc_1_5 := lss_t hc_1_5; clear hE a; intro a hE
   refine zs hE (p_pick (b := true) rfl rfl) ?_; clear hE a; intro a hE
   refine za hE ?_; clear hE a; intro a hE
   refine wnt ?_
   refine wp_ret ?_
   refine ret1 rfl hE rfl ?_
   exact ⟨by congr 1; simp; omega, hI⟩
  intro hc_1_5; replace hc_1_5 := lss_f hc_1_5; clear hE a; intro a hE
  refine zs hE (p_pick (b := true) rfl rfl) ?_; clear hE a; intro a hE
  refine za hE ?_; clear hE a; intro a hE
  refine wnt ?_
  refine wp_ret ?_
  refine ret1 rfl hE rfl ?_
  exact ⟨by congr 1; simp; omega, hI⟩
 intro hc_1_1; replace hc_1_1 := geq_f hc_1_1; clear hE a; intro a hE
 refine zm hE ?_; clear hE a; intro a hE
 refine zk hE ?_; clear hE a; intro a hE
 refine zk hE ?_; clear hE a; intro a hE
 refine zk hE ?_; clear hE a; intro a hE
 refine zs hE (p_pick (b := false) rfl rfl) ?_; clear hE a; intro a hE
 refine za hE ?_; clear hE a; intro a hE
 refine wnt ?_
 refine wp_ret ?_
 refine ret1 rfl hE rfl ?_
 exact ⟨by congr 1; simp; omega, hI⟩
theorem Valid_spec {w0 w : World} {D : Sto} {ss : List Seg} (hI : Inv w0 D ss w) {ad : Nat → Addr} (hS : TSents D ad) {vr : Value} {rc : Rc} (hr : RcV D vr rc) :
  Calls Tryd.prog 92 #[vr] w (Ret fun r w' => ((validR rc = true ∧ r = .nilIface) ∨ (validR rc = false ∧ ∃ c, r = errV ad c)) ∧ Inv w0 D ss w') := by
 obtain ⟨k1, v2, rfl, hk3, hv4, ho5⟩ := hr
 obtain ⟨A6, c7, rfl, _⟩ := hk3.slice
 obtain ⟨A8, c9, rfl, _⟩ := hv4.slice
 refine enter (N := 71) Tryd.func92 rfl rfl rfl ?_
 intro a hE
 refine wsr ?_
 refine l_step rfl (f_box (cs := #[_, _, _, _, _, _, _, _, _, _]) hE hI rfl rfl rfl rfl rfl ?_)
 clear hI hE a w; intro a b10 w hE hI
 refine za hE ?_; clear hE a; intro a hE
 refine wnt ?_
 refine wp_seq ?_
 refine wp_block ?_
 refine wsr ?_
 refine zs hE (p_fieldAddr (m := 0) rfl fo_88_0 rfl) ?_; clear hE a; intro a hE
 refine zl hE (f_load rfl scal_2 (hI.seg 0 rfl) rfl) ?_; clear hE a; intro a hE
 refine l_step rfl (o_cmp hE rfl rfl rfl rfl rfl rfl ?_ ?_)
 ·intro hc_1_2; replace hc_1_2 := lss_t hc_1_2; clear hE a; intro a hE
  refine zm hE ?_; clear hE a; intro a hE
  refine zk hE ?_; clear hE a; intro a hE
  refine zk hE ?_; clear hE a; intro a hE
  refine zk hE ?_; clear hE a; intro a hE
  refine zs hE (p_pick (b := true) rfl rfl) ?_; clear hE a; intro a hE
  refine zm hE ?_; clear hE a; intro a hE
  refine zk hE ?_; clear hE a; intro a hE
  refine zk hE ?_; clear hE a; intro a hE
  refine zk hE ?_; clear hE a; intro a hE
  refine zk hE ?_; clear hE a; intro a hE
  refine zs hE (p_pick (b := true) rfl rfl) ?_; clear hE a; intro a hE
  refine zm hE ?_; clear hE a; intro a hE
  refine zk hE ?_; clear hE a; intro a hE
  refine zk hE ?_; clear hE a; intro a hE
  refine zk hE ?_; clear hE a; intro a hE
  refine zk hE ?_; clear hE a; intro a hE
  refine zs hE (p_pick (b := true) rfl rfl) ?_; clear hE a; intro a hE
  refine zm hE ?_; clear hE a; intro a hE
  refine zk hE ?_; clear hE a; intro a hE
  refine zk hE ?_; clear hE a; intro a hE
  refine zk hE ?_; clear hE a; intro a hE
  refine zk hE ?_; clear hE a; intro a hE
  refine zs hE (p_pick (b := true) rfl rfl) ?_; clear hE a; intro a hE
  refine za hE ?_; clear hE a; intro a hE
  refine wnt ?_
  refine c_true hE rfl ?_
  refine wsr ?_
  obtain ⟨T_11, fr_11, hg_11⟩ := hS.g105
  refine zl hE (f_load rfl scal_25 (hI.data _ _ (hg_11)) rfl) ?_; clear hE a; intro a hE
  refine za hE ?_; clear hE a; intro a hE
  refine wnt ?_
  refine wp_ret ?_
  refine blk_ret ?_
  refine then_ret ?_
  refine ret1 rfl hE rfl ?_
  exact ⟨.inr ⟨by simp only [validR, decide_eq_false_iff_not]; omega, 105, rfl⟩, hI.drop⟩
 intro hc_1_2; replace hc_1_2 := lss_f hc_1_2; clear hE a; intro a hE
 refine zm hE ?_; clear hE a; intro a hE
 refine gs hE (p_fieldAddr (m := 0) rfl fo_88_0 rfl) ?_; clear hE a; intro a hE
 refine gl hE (f_load rfl scal_2 (hI.seg 0 rfl) rfl) ?_; clear hE a; intro a hE
 refine l_go hE rfl (o_cmp hE rfl rfl rfl rfl rfl rfl ?_ ?_)
 ·intro hc_1_6; replace hc_1_6 := gtr_t hc_1_6; clear hE a; intro a hE
  refine zs hE (p_pick (b := false) rfl rfl) ?_; clear hE a; intro a hE
  refine zm hE ?_; clear hE a; intro a hE
  refine zk hE ?_; clear hE a; intro a hE
  refine zk hE ?_; clear hE a; intro a hE
  refine zk hE ?_; clear hE a; intro a hE
  refine zk hE ?_; clear hE a; intro a hE
  refine zs hE (p_pick (b := true) rfl rfl) ?_; clear hE a; intro a hE
  refine zm hE ?_; clear hE a; intro a hE
  refine zk hE ?_; clear hE a; intro a hE
  refine zk hE ?_; clear hE a; intro a hE
  refine zk hE ?_; clear hE a; intro a hE
  refine zk hE ?_; clear hE a; intro a hE
  refine zs hE (p_pick (b := true) rfl rfl) ?_; clear hE a; intro a hE
  refine zm hE ?_; clear hE a; intro a hE
  refine zk hE ?_; clear hE a; intro a hE
  refine zk hE ?_; clear hE a; intro a hE
  refine zk hE ?_; clear hE a; intro a hE
  refine zk hE ?_; clear hE a; intro a hE
  refine zs hE (p_pick (b := true) rfl rfl) ?_; clear hE a; intro a hE
  refine za hE ?_; clear hE a; intro a hE
  refine wnt ?_
  refine c_true hE rfl ?_
  refine wsr ?_
  obtain ⟨T_12, fr_12, hg_12⟩ := hS.g105
  refine zl hE (f_load rfl scal_25 (hI.data _ _ (hg_12)) rfl) ?_; clear hE a; intro a hE
  refine za hE ?_; clear hE a; intro a hE
  refine wnt ?_
  refine wp_ret ?_
  refine blk_ret ?_
  refine then_ret ?_
  refine ret1 rfl hE rfl ?_
  exact ⟨.inr ⟨by simp only [validR, decide_eq_false_iff_not]; omega, 105, rfl⟩, hI.drop⟩
 intro hc_1_6; replace hc_1_6 := gtr_f hc_1_6; clear hE a; intro a hE
 refine zs hE (p_pick (b := false) rfl rfl) ?_; clear hE a; intro a hE
 refine zm hE ?_; clear hE a; intro a hE
 refine gs hE (p_fieldAddr (m := 2) rfl fo_88_2 rfl) ?_; clear hE a; intro a hE
 refine gl hE (f_load rfl scal_3 (hI.seg 0 rfl) rfl) ?_; clear hE a; intro a hE
 refine l_go hE rfl (o_call hE rfl rfl rfl rfl ent_120 (within_spec hI rc.epoch 1073741825) ?_)
 clear hI hE a
 rintro r w ⟨rfl, hI⟩ a hE
 obtain ⟨bf13, hbf14⟩ : ∃ b, decide (0 ≤ rc.epoch ∧ rc.epoch < 1073741825) = b := ⟨_, rfl⟩
 rw [hbf14] at hE
 replace hbf14 : bf13 = true ↔ (0 ≤ rc.epoch ∧ rc.epoch < 1073741825) := by rw [← hbf14]; exact decide_eq_true_iff
 rcases Bool.eq_false_or_eq_true bf13 with rfl | rfl
 ·replace hbf14 := iff_t hbf14
  refine gs hE (p_not rfl) ?_; clear hE a; intro a hE
  refine zs hE (p_pick (b := false) rfl rfl) ?_; clear hE a; intro a hE
  refine zm hE ?_; clear hE a; intro a hE
  refine gs hE (p_fieldAddr (m := 3) rfl fo_88_3 rfl) ?_; clear hE a; intro a hE
  refine gl hE (f_load rfl scal_3 (hI.seg 0 rfl) rfl) ?_; clear hE a; intro a hE
  refine l_go hE rfl (o_call hE rfl rfl rfl rfl ent_120 (within_spec hI rc.group 4) ?_)
  clear hI hE a
  rintro r w ⟨rfl, hI⟩ a hE
  obtain ⟨bf15, hbf16⟩ : ∃ b, decide (0 ≤ rc.group ∧ rc.group < 4) = b := ⟨_, rfl⟩
  rw [hbf16] at hE
  replace hbf16 : bf15 = true ↔ (0 ≤ rc.group ∧ rc.group < 4) := by rw [← hbf16]; exact decide_eq_true_iff
  rcases Bool.eq_false_or_eq_true bf15 with rfl | rfl
  ·replace hbf16 := iff_t hbf16
   refine gs hE (p_not rfl) ?_; clear hE a; intro a hE
   refine zs hE (p_pick (b := false) rfl rfl) ?_; clear hE a; intro a hE
   refine zm hE ?_; clear hE a; intro a hE
   refine gs hE (p_fieldAddr (m := 4) rfl fo_88_4 rfl) ?_; clear hE a; intro a hE
   refine gl hE (f_load rfl scal_3 (hI.seg 0 rfl) rfl) ?_; clear hE a; intro a hE
   refine l_go hE rfl (o_call hE rfl rfl rfl rfl ent_120 (within_spec hI rc.page 256) ?_)
   clear hI hE a
   rintro r w ⟨rfl, hI⟩ a hE
   obtain ⟨bf17, hbf18⟩ : ∃ b, decide (0 ≤ rc.page ∧ rc.page < 256) = b := ⟨_, rfl⟩
   rw [hbf18] at hE
   replace hbf18 : bf17 = true ↔ (0 ≤ rc.page ∧ rc.page < 256) := by rw [← hbf18]; exact decide_eq_true_iff
   rcases Bool.eq_false_or_eq_true bf17 with rfl | rfl
   ·replace hbf18 := iff_t hbf18
    refine gs hE (p_not rfl) ?_; clear hE a; intro a hE
    refine zs hE (p_pick (b := false) rfl rfl) ?_; clear hE a; intro a hE
    refine za hE ?_; clear hE a; intro a hE
    refine wnt ?_
    refine c_false hE rfl ?_
    refine wsr ?_
    refine zs hE (p_fieldAddr (m := 1) rfl fo_88_1 rfl) ?_; clear hE a; intro a hE
    refine zl hE (f_load rfl scal_2 (hI.seg 0 rfl) rfl) ?_; clear hE a; intro a hE
    refine l_step rfl (o_cmp hE rfl rfl rfl rfl rfl rfl ?_ ?_)
    ·intro hc_3_2; replace hc_3_2 := lss_t hc_3_2; clear hE a; intro a hE
     refine zm hE ?_; clear hE a; intro a hE
     refine zk hE ?_; clear hE a; intro a hE
     refine zk hE ?_; clear hE a; intro a hE
     refine zk hE ?_; clear hE a; intro a hE
     refine zk hE ?_; clear hE a; intro a hE
     refine zk hE ?_; clear hE a; intro a hE
     refine zs hE (p_pick (b := true) rfl rfl) ?_; clear hE a; intro a hE
     refine zm hE ?_; clear hE a; intro a hE
     refine zk hE ?_; clear hE a; intro a hE
     refine zk hE ?_; clear hE a; intro a hE
     refine zk hE ?_; clear hE a; intro a hE
     refine zk hE ?_; clear hE a; intro a hE
     refine zs hE (p_pick (b := true) rfl rfl) ?_; clear hE a; intro a hE
     refine za hE ?_; clear hE a; intro a hE
     refine wnt ?_
     refine c_true hE rfl ?_
     refine wsr ?_
     obtain ⟨T_19, fr_19, hg_19⟩ := hS.g105
     refine zl hE (f_load rfl scal_25 (hI.data _ _ (hg_19)) rfl) ?_; clear hE a; intro a hE
     refine za hE ?_; clear hE a; intro a hE
     refine wnt ?_
     refine wp_ret ?_
     refine blk_ret ?_
     refine then_ret ?_
     refine ret1 rfl hE rfl ?_
     exact ⟨.inr ⟨by simp only [validR, decide_eq_false_iff_not]; omega, 105, rfl⟩, hI.drop⟩
    intro hc_3_2; replace hc_3_2 := lss_f hc_3_2; clear hE a; intro a hE
    refine zm hE ?_; clear hE a; intro a hE
    refine gs hE (p_fieldAddr (m := 1) rfl fo_88_1 rfl) ?_; clear hE a; intro a hE
    refine gl hE (f_load rfl scal_2 (hI.seg 0 rfl) rfl) ?_; clear hE a; intro a hE
    refine gs hE (p_fieldAddr (m := 0) rfl fo_88_0 rfl) ?_; clear hE a; intro a hE
    refine gl hE (f_load rfl scal_2 (hI.seg 0 rfl) rfl) ?_; clear hE a; intro a hE
    refine l_go hE rfl (o_cmp hE rfl rfl rfl rfl rfl rfl ?_ ?_)
    ·intro hc_3_8; replace hc_3_8 := geq_t hc_3_8; clear hE a; intro a hE
     refine zs hE (p_pick (b := false) rfl rfl) ?_; clear hE a; intro a hE
     refine zm hE ?_; clear hE a; intro a hE
     refine zk hE ?_; clear hE a; intro a hE
     refine zk hE ?_; clear hE a; intro a hE
     refine zk hE ?_; clear hE a; intro a hE
     refine zk hE ?_; clear hE a; intro a hE
     refine zs hE (p_pick (b := true) rfl rfl) ?_; clear hE a; intro a hE
     refine za hE ?_; clear hE a; intro a hE
     refine wnt ?_
     refine c_true hE rfl ?_
     refine wsr ?_
     obtain ⟨T_20, fr_20, hg_20⟩ := hS.g105
     refine zl hE (f_load rfl scal_25 (hI.data _ _ (hg_20)) rfl) ?_; clear hE a; intro a hE
     refine za hE ?_; clear hE a; intro a hE
     refine wnt ?_
     refine wp_ret ?_
     refine blk_ret ?_
     refine then_ret ?_
     refine ret1 rfl hE rfl ?_
     exact ⟨.inr ⟨by simp only [validR, decide_eq_false_iff_not]; omega, 105, rfl⟩, hI.drop⟩
    intro hc_3_8; replace hc_3_8 := geq_f hc_3_8; clear hE a; intro a hE
    refine zs hE (p_pick (b := false) rfl rfl) ?_; clear hE a; intro a hE
    refine zm hE ?_; clear hE a; intro a hE
    refine gs hE (p_fieldAddr (m := 6) rfl fo_88_6 rfl) ?_; clear hE a; intro a hE
    refine gl hE (f_load rfl scal_3 (hI.seg 0 rfl) rfl) ?_; clear hE a; intro a hE
    refine l_go hE rfl (o_call hE rfl rfl rfl rfl ent_120 (within_spec hI rc.slot 32769) ?_)
    clear hI hE a
    rintro r w ⟨rfl, hI⟩ a hE
    obtain ⟨bf21, hbf22⟩ : ∃ b, decide (0 ≤ rc.slot ∧ rc.slot < 32769) = b := ⟨_, rfl⟩
    rw [hbf22] at hE
    replace hbf22 : bf21 = true ↔ (0 ≤ rc.slot ∧ rc.slot < 32769) := by rw [← hbf22]; exact decide_eq_true_iff
    rcases Bool.eq_false_or_eq_true bf21 with rfl | rfl
    ·replace hbf22 := iff_t hbf22
     refine gs hE (p_not rfl) ?_; clear hE a; intro a hE
     refine zs hE (p_pick (b := false) rfl rfl) ?_; clear hE a; intro a hE
     refine za hE ?_; clear hE a; intro a hE
     refine wnt ?_
     refine c_false hE rfl ?_
     refine wsr ?_
     refine zs hE (p_fieldAddr (m := 5) rfl fo_88_5 rfl) ?_; clear hE a; intro a hE
     refine zl hE (f_load rfl scal_3 (hI.seg 0 rfl) rfl) ?_; clear hE a; intro a hE
     refine l_step rfl (o_cmp hE rfl rfl rfl rfl rfl rfl ?_ ?_)
     ·intro hc_5_2; replace hc_5_2 := lss_t hc_5_2; clear hE a; intro a hE
      refine zm hE ?_; clear hE a; intro a hE
      refine zk hE ?_; clear hE a; intro a hE
      refine zk hE ?_; clear hE a; intro a hE
      refine zk hE ?_; clear hE a; intro a hE
      refine zs hE (p_pick (b := true) rfl rfl) ?_; clear hE a; intro a hE
      refine za hE ?_; clear hE a; intro a hE
      refine wnt ?_
      refine c_true hE rfl ?_
      refine wsr ?_
      obtain ⟨T_23, fr_23, hg_23⟩ := hS.g106
      refine zl hE (f_load rfl scal_25 (hI.data _ _ (hg_23)) rfl) ?_; clear hE a; intro a hE
      refine za hE ?_; clear hE a; intro a hE
      refine wnt ?_
      refine wp_ret ?_
      refine blk_ret ?_
      refine then_ret ?_
      refine ret1 rfl hE rfl ?_
      exact ⟨.inr ⟨by simp only [validR, decide_eq_false_iff_not]; omega, 106, rfl⟩, hI.drop⟩
     intro hc_5_2; replace hc_5_2 := lss_f hc_5_2; clear hE a; intro a hE
     refine zm hE ?_; clear hE a; intro a hE
     refine gs hE (p_fieldAddr (m := 5) rfl fo_88_5 rfl) ?_; clear hE a; intro a hE
     refine gl hE (f_load rfl scal_3 (hI.seg 0 rfl) rfl) ?_; clear hE a; intro a hE
     refine l_go hE rfl (o_cmp hE rfl rfl rfl rfl rfl rfl ?_ ?_)
     ·intro hc_5_6; replace hc_5_6 := gtr_t hc_5_6; clear hE a; intro a hE
      refine zs hE (p_pick (b := false) rfl rfl) ?_; clear hE a; intro a hE
      refine za hE ?_; clear hE a; intro a hE
      refine wnt ?_
      refine c_true hE rfl ?_
      refine wsr ?_
      obtain ⟨T_24, fr_24, hg_24⟩ := hS.g106
      refine zl hE (f_load rfl scal_25 (hI.data _ _ (hg_24)) rfl) ?_; clear hE a; intro a hE
      refine za hE ?_; clear hE a; intro a hE
      refine wnt ?_
      refine wp_ret ?_
      refine blk_ret ?_
      refine then_ret ?_
      refine ret1 rfl hE rfl ?_
      exact ⟨.inr ⟨by simp only [validR, decide_eq_false_iff_not]; omega, 106, rfl⟩, hI.drop⟩
     intro hc_5_6; replace hc_5_6 := gtr_f hc_5_6; clear hE a; intro a hE
     refine zs hE (p_pick (b := false) rfl rfl) ?_; clear hE a; intro a hE
     refine za hE ?_; clear hE a; intro a hE
     refine wnt ?_
     refine c_false hE rfl ?_
     refine wsr ?_
     refine zs hE (p_fieldAddr (m := 7) rfl fo_88_7 rfl) ?_; clear hE a; intro a hE
     refine zl hE (f_load rfl scal_22 (hI.seg 0 rfl) rfl) ?_; clear hE a; intro a hE
     refine zs hE (p_len rfl rfl Tryd.underlying22) ?_; clear hE a; intro a hE
     refine l_step rfl (o_cmp hE rfl rfl rfl rfl rfl rfl ?_ ?_)
     ·intro hc_7_3; replace hc_7_3 := gtr_t hc_7_3; clear hE a; intro a hE
      refine zm hE ?_; clear hE a; intro a hE
      refine zk hE ?_; clear hE a; intro a hE
      refine zk hE ?_; clear hE a; intro a hE
      refine zk hE ?_; clear hE a; intro a hE
      refine zk hE ?_; clear hE a; intro a hE
      refine zs hE (p_pick (b := true) rfl rfl) ?_; clear hE a; intro a hE
      refine za hE ?_; clear hE a; intro a hE
      refine wnt ?_
      refine c_true hE rfl ?_
      refine wsr ?_
      obtain ⟨T_25, fr_25, hg_25⟩ := hS.g104
      refine zl hE (f_load rfl scal_25 (hI.data _ _ (hg_25)) rfl) ?_; clear hE a; intro a hE
      refine za hE ?_; clear hE a; intro a hE
      refine wnt ?_
      refine wp_ret ?_
      refine blk_ret ?_
      refine then_ret ?_
      refine ret1 rfl hE rfl ?_
      exact ⟨.inr ⟨by simp only [validR, decide_eq_false_iff_not]; omega, 104, rfl⟩, hI.drop⟩
     intro hc_7_3; replace hc_7_3 := gtr_f hc_7_3; clear hE a; intro a hE
     refine zm hE ?_; clear hE a; intro a hE
     refine gs hE (p_fieldAddr (m := 8) rfl fo_88_8 rfl) ?_; clear hE a; intro a hE
     refine gl hE (f_load rfl scal_22 (hI.seg 0 rfl) rfl) ?_; clear hE a; intro a hE
     refine gs hE (p_len rfl rfl Tryd.underlying22) ?_; clear hE a; intro a hE
     refine l_go hE rfl (o_cmp hE rfl rfl rfl rfl rfl rfl ?_ ?_)
     ·intro hc_7_8; replace hc_7_8 := gtr_t hc_7_8; clear hE a; intro a hE
      refine zs hE (p_pick (b := false) rfl rfl) ?_; clear hE a; intro a hE
      refine za hE ?_; clear hE a; intro a hE
      refine wnt ?_
      refine c_true hE rfl ?_
      refine wsr ?_
      obtain ⟨T_26, fr_26, hg_26⟩ := hS.g104
      refine zl hE (f_load rfl scal_25 (hI.data _ _ (hg_26)) rfl) ?_; clear hE a; intro a hE
      refine za hE ?_; clear hE a; intro a hE
      refine wnt ?_
      refine wp_ret ?_
      refine blk_ret ?_
      refine then_ret ?_
      refine ret1 rfl hE rfl ?_
      exact ⟨.inr ⟨by simp only [validR, decide_eq_false_iff_not]; omega, 104, rfl⟩, hI.drop⟩
     intro hc_7_8; replace hc_7_8 := gtr_f hc_7_8; clear hE a; intro a hE
     refine zs hE (p_pick (b := false) rfl rfl) ?_; clear hE a; intro a hE
     refine za hE ?_; clear hE a; intro a hE
     refine wnt ?_
     refine c_false hE rfl ?_
     refine wp_skip ?_
     refine blk_normal ?_
     refine then_normal ?_
     refine wsr ?_
     refine za hE ?_; clear hE a; intro a hE
     refine wnt ?_
     refine wp_ret ?_
     refine ret1 rfl hE rfl ?_
     exact ⟨.inl ⟨by simp only [validR, decide_eq_true_eq]; omega, rfl⟩, hI.drop⟩
    replace hbf22 := iff_f hbf22
    refine gs hE (p_not rfl) ?_; clear hE a; intro a hE
    refine zs hE (p_pick (b := false) rfl rfl) ?_; clear hE a; intro a hE
    refine za hE ?_; clear hE a; intro a hE
    refine wnt ?_
    refine c_true hE rfl ?_
    refine wsr ?_
    obtain ⟨T_27, fr_27, hg_27⟩ := hS.g105
    refine zl hE (f_load rfl scal_25 (hI.data _ _ (hg_27)) rfl) ?_; clear hE a; intro a hE
    refine za hE ?_; clear hE a; intro a hE
    refine wnt ?_
    refine wp_ret ?_
    refine blk_ret ?_
    refine then_ret ?_
    refine ret1 rfl hE rfl ?_
    exact ⟨.inr ⟨by simp only [validR, decide_eq_false_iff_not]; omega, 105, rfl⟩, hI.drop⟩
   replace hbf18 := iff_f hbf18
   refine gs hE (p_not rfl) ?_; clear hE a; intro a hE
   refine zs hE (p_pick (b := false) rfl rfl) ?_; clear hE a; intro a hE
   refine za hE ?_; clear hE a; intro a hE
   refine wnt ?_
   refine c_true hE rfl ?_
   refine wsr ?_
   obtain ⟨T_28, fr_28, hg_28⟩ := hS.g105
   refine zl hE (f_load rfl scal_25 (hI.data _ _ (hg_28)) rfl) ?_; clear hE a; intro a hE
   refine za hE ?_; clear hE a; intro a hE
   refine wnt ?_
   refine wp_ret ?_
   refine blk_ret ?_
   refine then_ret ?_
   refine ret1 rfl hE rfl ?_
   exact ⟨.inr ⟨by simp only [validR, decide_eq_false_iff_not]; omega, 105, rfl⟩, hI.drop⟩
  replace hbf16 := iff_f hbf16
  refine gs hE (p_not rfl) ?_; clear hE a; intro a hE
  refine zs hE (p_pick (b := false) rfl rfl) ?_; clear hE a; intro a hE
  refine zm hE ?_; clear hE a; intro a hE
  refine zk hE ?_; clear hE a; intro a hE
  refine zk hE ?_; clear hE a; intro a hE
  refine zk hE ?_; clear hE a; intro a hE
  refine zk hE ?_; clear hE a; intro a hE
  refine zs hE (p_pick (b := true) rfl rfl) ?_; clear hE a; intro a hE
  refine za hE ?_; clear hE a; intro a hE
  refine wnt ?_
  refine c_true hE rfl ?_
  refine wsr ?_
  obtain ⟨T_29, fr_29, hg_29⟩ := hS.g105
  refine zl hE (f_load rfl scal_25 (hI.data _ _ (hg_29)) rfl) ?_; clear hE a; intro a hE
  refine za hE ?_; clear hE a; intro a hE
  refine wnt ?_
  refine wp_ret ?_
  refine blk_ret ?_
  refine then_ret ?_
  refine ret1 rfl hE rfl ?_
  exact ⟨.inr ⟨by simp only [validR, decide_eq_false_iff_not]; omega, 105, rfl⟩, hI.drop⟩
 replace hbf14 := iff_f hbf14
 refine gs hE (p_not rfl) ?_; clear hE a; intro a hE
 refine zs hE (p_pick (b := false) rfl rfl) ?_; clear hE a; intro a hE
 refine zm hE ?_; clear hE a; intro a hE
 refine zk hE ?_; clear hE a; intro a hE
 refine zk hE ?_; clear hE a; intro a hE
 refine zk hE ?_; clear hE a; intro a hE
 refine zk hE ?_; clear hE a; intro a hE
 refine zs hE (p_pick (b := true) rfl rfl) ?_; clear hE a; intro a hE
 refine zm hE ?_; clear hE a; intro a hE
 refine zk hE ?_; clear hE a; intro a hE
 refine zk hE ?_; clear hE a; intro a hE
 refine zk hE ?_; clear hE a; intro a hE
 refine zk hE ?_; clear hE a; intro a hE
 refine zs hE (p_pick (b := true) rfl rfl) ?_; clear hE a; intro a hE
 refine za hE ?_; clear hE a; intro a hE
 refine wnt ?_
 refine c_true hE rfl ?_
 refine wsr ?_
 obtain ⟨T_30, fr_30, hg_30⟩ := hS.g105
 refine zl hE (f_load rfl scal_25 (hI.data _ _ (hg_30)) rfl) ?_; clear hE a; intro a hE
 refine za hE ?_; clear hE a; intro a hE
 refine wnt ?_
 refine wp_ret ?_
 refine blk_ret ?_
 refine then_ret ?_
 refine ret1 rfl hE rfl ?_
 exact ⟨.inr ⟨by simp only [validR, decide_eq_false_iff_not]; omega, 105, rfl⟩, hI.drop⟩
theorem RClone_spec {w0 w : World} {D : Sto} {ss : List Seg} (hI : Inv w0 D ss w) {vr : Value} {rc : Rc} (hr : RcV D vr rc) :
  Calls Tryd.prog 114 #[vr] w (Ret fun r w' => ∃ D', Le D D' ∧ Inv w0 D' ss w' ∧ RcV D' r rc) := by
 obtain ⟨k1, v2, rfl, hk3, hv4, ho5⟩ := hr
 obtain ⟨A6, c7, rfl, _⟩ := hk3.slice
 obtain ⟨A8, c9, rfl, _⟩ := hv4.slice
 refine enter (N := 12) Tryd.func114 rfl rfl rfl ?_
 intro a hE
 refine wsr ?_
 refine l_step rfl (f_box (cs := #[_, _, _, _, _, _, _, _, _, _]) hE hI rfl rfl rfl rfl rfl ?_)
 clear hI hE a w; intro a b10 w hE hI
 refine l_step rfl (f_alloc (cs := #[.int .i64 0, .int .i64 0, .int .i64 0, .int .i64 0, .int .i64 0, .int .i64 0, .int .i64 0, .slice none 0 0, .slice none 0 0, .bool false]) hE hI rfl rfl rfl zer_88 rfl ?_)
 clear hI hE a w; intro a b11 w hE hI
 refine wnt ?_
 refine wp_seq ?_
 refine d_start [7, 9] [] (by kernel_rfl) hI rfl rfl ?_
 clear hI w; intro w hI
 refine dp 0 hE rfl (p_fieldAddr (m := 7) rfl fo_88_7 rfl) (fun _ => hI) (listed' := #[true, false, false, false, false, false, false, false, false, false]) ?_; clear hE a; intro a hE
 refine dl 1 hE rfl (fun w hS => f_load rfl scal_22 (Inv.seg 1 hS rfl) rfl) (hI) ?_; clear hE a; intro a hE
 refine dp 3 hE rfl (p_fieldAddr (m := 8) rfl fo_88_8 rfl) (fun _ => hI) ?_; clear hE a; intro a hE
 refine dl 4 hE rfl (fun w hS => f_load rfl scal_22 (Inv.seg 1 hS rfl) rfl) (hI) ?_; clear hE a; intro a hE
 refine do1 2 hE rfl ?_
 refine o_call hE rfl rfl rfl rfl ent_73 (Clone_data (bs := rc.key) hI hk3 (by have := ho5.k; have := ho5.v; omega)) ?_
 clear hI hE a
 rintro r w ⟨D12, hD13, hI, hb14⟩ a hE
 obtain ⟨A15, c16, rfl, _⟩ := hb14.slice
 refine ⟨fun _ => (Inv.weaken hI hD13), ?_⟩
 refine dp 6 hE rfl (p_fieldAddr (m := 7) rfl fo_88_7 rfl) (fun _ => (Inv.weaken hI hD13)) ?_; clear hE a; intro a hE
 refine do1 5 hE rfl ?_
 refine o_call hE rfl rfl rfl rfl ent_73 (Clone_data (bs := rc.val) hI (hv4.mono hD13) (by have := ho5.k; have := ho5.v; omega)) ?_
 clear hI hE a
 rintro r w ⟨D17, hD18, hI, hb19⟩ a hE
 obtain ⟨A20, c21, rfl, _⟩ := hb19.slice
 refine ⟨fun _ => (Inv.weaken hI (hD13.trans hD18)), ?_⟩
 refine do1 7 hE rfl ?_
 refine f_store (l := [_, _, _, _, _, _, _, _, _, _]) (ss' := _ :: _ :: _) 1 hE hI rfl rfl rfl rfl rfl sz_22 (by simp [Value.cells, Value.oneCell', pgCells, rcCells]) rfl rfl rfl ?_
 clear hI w; intro w hI
 refine ⟨nl, ?_⟩
 refine dp 8 hE rfl (p_fieldAddr (m := 8) rfl fo_88_8 rfl) nl ?_; clear hE a; intro a hE
 refine do1 9 hE rfl ?_
 refine f_store (l := [_, _, _, _, _, _, _, _, _, _]) (ss' := _ :: _ :: _) 1 hE hI rfl rfl rfl rfl rfl sz_22 (by simp [Value.cells, Value.oneCell', pgCells, rcCells]) rfl rfl rfl ?_
 clear hI w; intro w hI
 refine ⟨nl, ?_⟩
 refine d_done (by kernel_rfl) ?_
 refine then_normal ?_
 refine wsr ?_
 refine zl hE (f_loadA (vs := [_, _, _, _, _, _, _, _, _, _]) rfl agg_88 (hI.seg 1 rfl) rfl rfl) ?_; clear hE a; intro a hE
 refine l_step rfl (f_store (l := [_, _, _, _, _, _, _, _, _, _]) (ss' := _ :: _) 0 hE hI rfl rfl rfl rfl rfl sz_88 (by simp [Value.cells, Value.oneCell', pgCells, rcCells]) rfl rfl rfl ?_)
 clear hI w; intro w hI
 refine wnt ?_
 refine wp_ret ?_
 refine retc1 rfl hE rfl agg_88 (hI.seg 0 rfl) rfl ?_
 exact ⟨_, (hD13.trans hD18), hI.drop.drop, ⟨_, _, rfl, (hb14.mono hD18), hb19, ho5⟩⟩
theorem PoolNew_spec {w0 w : World} {D : Sto} {ss : List Seg} (hI : Inv w0 D ss w) :
  Calls Tryd.prog 68 #[] w (Ret fun r w' => ∃ s, PoolS D r Pl.empty s ∧ Inv w0 D (s :: ss) w') := by
 refine enter (N := 5) Tryd.func68 rfl rfl rfl ?_
 intro a hE
 refine wsr ?_
 refine za hE ?_; clear hE a; intro a hE
 refine wnt ?_
 refine wsr ?_
 refine l_step rfl (f_makeMap hE hI rfl rfl rfl ?_)
 clear hI hE a w; intro a b1 w hE hI
 refine l_step rfl (f_makeMap hE hI rfl rfl rfl ?_)
 clear hI hE a w; intro a b2 w hE hI
 refine zs hE (f_build (vs := [(0, _), (1, _)]) (l := [_, _]) rfl built_145 rfl) ?_; clear hE a; intro a hE
 refine l_step rfl (f_box (cs := #[_, _]) hE hI rfl rfl rfl rfl rfl ?_)
 clear hI hE a w; intro a b3 w hE hI
 refine za hE ?_; clear hE a; intro a hE
 refine wnt ?_
 refine wp_ret ?_
 refine ret1 rfl hE rfl ?_
 refine ⟨[(b3, .cells #[.map (some b1), .map (some b2)] 145 (0, 0)), (b1, .map #[] 0), (b2, .map #[] 0)], ⟨b3, b1, b2, _, _, [], _, _, [], rfl, rfl, IntMap.empty, MapD.empty _, rfl, IntMap.empty, rfl⟩, hI.perm ?_⟩
 simp only [List.flatten_cons, List.cons_append, List.nil_append]
 exact (List.Perm.swap _ _ _).cons _
theorem Len_spec {w0 w : World} {D : Sto} {ss : List Seg} {s : Seg} {vp : Value} {P : Pl} (hI : Inv w0 D (s :: ss) w) (hP : PoolS D vp P s) :
  Calls Tryd.prog 51 #[vp] w (Ret fun r w' => r = .int .i64 (P.n : Nat) ∧ Inv w0 D (s :: ss) w') := by
 obtain ⟨bp, bl, bw, esl, clkl, ml, esw, clkw, mw, rfl, rfl, hml, hMl, hnl, hmw, hww⟩ := hP
 replace hI : Inv w0 D ([(bp, .cells #[.map (some bl), .map (some bw)] 145 (0, 0))] :: [(bl, .map esl clkl)] :: [(bw, .map esw clkw)] :: ss) w := hI.perm (List.Perm.refl _)
 refine enter (N := 8) Tryd.func51 rfl rfl rfl ?_
 intro a hE
 refine wsr ?_
 refine za hE ?_; clear hE a; intro a hE
 refine wnt ?_
 refine wsr ?_
 refine zm hE ?_; clear hE a; intro a hE
 refine zs hE (p_nilCheck rfl) ?_; clear hE a; intro a hE
 refine zs hE (p_fieldAddr (m := 0) rfl fo_145_0 rfl) ?_; clear hE a; intro a hE
 refine zl hE (f_load rfl scal_118 (hI.seg 0 rfl) rfl) ?_; clear hE a; intro a hE
 refine zl hE (r_lenM rfl rfl Tryd.underlying118 (hI.seg 1 rfl) hml) ?_; clear hE a; intro a hE
 refine za hE ?_; clear hE a; intro a hE
 refine wnt ?_
 refine wp_ret ?_
 refine ret1 rfl hE rfl ?_
 exact ⟨by rw [hnl], hI.perm (List.Perm.refl _)⟩
end Go.Proofs.YtbogbnkckofpdaaDoor.B
