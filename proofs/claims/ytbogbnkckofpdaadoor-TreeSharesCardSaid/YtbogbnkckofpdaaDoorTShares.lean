/- What functions of the program compute, each function once: steps over the model, and the plain law of it. -/
import Derived.Test.YtbogbnkckofpdaaDoorTFirst
import Derived.Test.YtbogbnkckofpdaaDoorTApart
import Derived.Test.YtbogbnkckofpdaaDoorTKeys
import Derived.Test.YtbogbnkckofpdaaDoorTTreeSharesP
namespace Go.Proofs.YtbogbnkckofpdaaDoor.B
open Go Go.Proofs
set_option linter.unusedVariables false
set_option linter.unusedSimpArgs false
set_option maxRecDepth 20000
set_option maxHeartbeats 8000000
namespace FTShares
theorem ent_18 : enters Tryd.prog 18 = true := by kernel_rfl
theorem ent_30 : enters Tryd.prog 30 = true := by kernel_rfl
theorem ent_31 : enters Tryd.prog 31 = true := by kernel_rfl
theorem ent_32 : enters Tryd.prog 32 = true := by kernel_rfl
theorem ent_33 : enters Tryd.prog 33 = true := by kernel_rfl
theorem ent_34 : enters Tryd.prog 34 = true := by kernel_rfl
theorem ent_35 : enters Tryd.prog 35 = true := by kernel_rfl
theorem ent_36 : enters Tryd.prog 36 = true := by kernel_rfl
theorem ent_37 : enters Tryd.prog 37 = true := by kernel_rfl
theorem scal_22 : isScal Tryd.prog 22 = true := by kernel_rfl
theorem scal_5 : isScal Tryd.prog 5 = true := by kernel_rfl
theorem sz_22 : (Tryd.prog.info? 22).map (·.size) = some 1 := by kernel_rfl
theorem sz_5 : (Tryd.prog.info? 5).map (·.size) = some 1 := by kernel_rfl
theorem zs_5 : (Tryd.prog.info? 5).map (fun i => (i.zero, i.size)) = some (some (.int .u8 0), 1) := by kernel_rfl
end FTShares
open FTShares
theorem TreeShares_spec {w0 w : World} {D : Sto} {ss : List Seg} (hI : Inv w0 D ss w) {ad : Nat → Addr} (hS : TSents D ad) {vl vk : Value} {l : List Bs} {key : Bs} (hl : DR 1 BsR D vl l) (hk : RB D vk key) :
    Calls Tryd.prog 6 #[vl, vk] w (Ret fun r w' => r = .bool true ∧ ∃ D', Le D D' ∧ Inv w0 D' ss w') := by
  obtain ⟨A1, c2, rfl, _⟩ := hl.slice
  obtain ⟨A3, c4, rfl, _⟩ := hk.slice
  refine enter (N := 182) Tryd.func6 rfl rfl rfl ?_
  intro a hE
  refine wp_seq ?_
  refine wp_region_list ?_   -- region 0
  refine l_step rfl (o_pure hE rfl rfl (p_assign rfl).run ?_); clear hE a; intro a hE
  refine wpList_nil ?_
  refine then_normal ?_
  refine wp_seq ?_
  refine wp_region_list ?_   -- region 1
  refine l_step rfl (o_call hE rfl rfl rfl rfl ent_30 (first21_spec hI hS) ?_)
  clear hI hE a
  rintro r w ⟨D5, hD6, hI, rfl⟩ a hE
  refine l_step rfl (o_pure hE rfl rfl (p_assign rfl).run ?_); clear hE a; intro a hE
  refine wpList_nil ?_
  refine then_normal ?_
  refine wp_seq ?_
  refine wp_seq ?_
  refine wp_region_list ?_   -- region 2
  refine l_step rfl (o_pure hE rfl rfl (p_move rfl).run ?_); clear hE a; intro a hE
  refine l_step rfl (o_pure hE rfl rfl (p_not rfl).run ?_); clear hE a; intro a hE
  refine wpList_nil ?_
  refine then_normal ?_
  refine c_false hE rfl ?_
  refine wp_skip ?_
  refine then_normal ?_
  refine wp_seq ?_
  refine wp_seq ?_
  refine wp_region_list ?_   -- region 4
  refine l_step rfl (o_pure hE rfl rfl (p_move rfl).run ?_); clear hE a; intro a hE
  refine l_step rfl (o_call hE rfl rfl rfl rfl ent_31 (Keys_spec (l := l) (most := 30) (long := 32) hI (DR.mono BsR.keeps hl hD6) (by omega)) ?_)
  clear hI hE a
  rintro r w ⟨rfl, hI⟩ a hE
  obtain ⟨bf7, hbf8⟩ : ∃ b, decide ((l.length : Int) ≤ 30 ∧ ∀ k ∈ l, (k.length : Int) ≤ 32) = b := ⟨_, rfl⟩
  rw [hbf8] at hE
  replace hbf8 : bf7 = true ↔ ((l.length : Int) ≤ 30 ∧ ∀ k ∈ l, (k.length : Int) ≤ 32) := by rw [← hbf8]; exact decide_eq_true_iff
  rcases Bool.eq_false_or_eq_true bf7 with rfl | rfl
  · replace hbf8 := iff_t hbf8
    refine l_step rfl (o_pure hE rfl rfl (p_not rfl).run ?_); clear hE a; intro a hE
    refine l_step rfl (o_pure hE rfl rfl (p_move rfl).run ?_); clear hE a; intro a hE
    refine l_go hE rfl (o_pure hE rfl rfl (p_move rfl).run ?_); clear hE a; intro a hE
    refine l_go hE rfl (o_pure hE rfl rfl (p_len rfl rfl Tryd.underlying22).run ?_); clear hE a; intro a hE
    refine l_go hE rfl (o_cmp hE rfl rfl rfl rfl rfl rfl ?_ ?_)
    · intro hk1; replace hk1 := lss_t hk1; clear hE a; intro a hE
      refine l_step rfl (o_pure hE rfl rfl (p_pick (b := false) rfl rfl).run ?_); clear hE a; intro a hE
      refine l_step rfl (o_pure hE rfl rfl (p_move rfl).run ?_); clear hE a; intro a hE
      refine l_skip hE rfl rfl rfl ?_; clear hE a; intro a hE
      refine l_skip hE rfl rfl rfl ?_; clear hE a; intro a hE
      refine l_skip hE rfl rfl rfl ?_; clear hE a; intro a hE
      refine l_step rfl (o_pure hE rfl rfl (p_pick (b := true) rfl rfl).run ?_); clear hE a; intro a hE
      refine l_step rfl (o_pure hE rfl rfl (p_move rfl).run ?_); clear hE a; intro a hE
      refine l_skip hE rfl rfl rfl ?_; clear hE a; intro a hE
      refine l_skip hE rfl rfl rfl ?_; clear hE a; intro a hE
      refine l_step rfl (o_pure hE rfl rfl (p_pick (b := true) rfl rfl).run ?_); clear hE a; intro a hE
      refine wpList_nil ?_
      refine then_normal ?_
      refine c_true hE rfl ?_
      refine wp_seq ?_
      refine wp_region_list ?_   -- region 5
      refine l_step rfl (o_pure hE rfl rfl (p_move rfl).run ?_); clear hE a; intro a hE
      refine l_step rfl (o_pure hE rfl rfl (p_assign rfl).run ?_); clear hE a; intro a hE
      refine wpList_nil ?_
      refine then_normal ?_
      refine wp_ret ?_
      refine then_ret ?_
      refine ret1 rfl hE rfl ?_
      exact ⟨rfl, _, hD6, hI⟩
    · intro hk1; replace hk1 := lss_f hk1; clear hE a; intro a hE
      refine l_step rfl (o_pure hE rfl rfl (p_pick (b := false) rfl rfl).run ?_); clear hE a; intro a hE
      refine l_step rfl (o_pure hE rfl rfl (p_move rfl).run ?_); clear hE a; intro a hE
      refine l_go hE rfl (o_pure hE rfl rfl (p_move rfl).run ?_); clear hE a; intro a hE
      refine l_go hE rfl (o_pure hE rfl rfl (p_len rfl rfl Tryd.underlying22).run ?_); clear hE a; intro a hE
      refine l_go hE rfl (o_cmp hE rfl rfl rfl rfl rfl rfl ?_ ?_)
      · intro hk2; replace hk2 := gtr_t hk2; clear hE a; intro a hE
        refine l_step rfl (o_pure hE rfl rfl (p_pick (b := false) rfl rfl).run ?_); clear hE a; intro a hE
        refine l_step rfl (o_pure hE rfl rfl (p_move rfl).run ?_); clear hE a; intro a hE
        refine l_skip hE rfl rfl rfl ?_; clear hE a; intro a hE
        refine l_skip hE rfl rfl rfl ?_; clear hE a; intro a hE
        refine l_step rfl (o_pure hE rfl rfl (p_pick (b := true) rfl rfl).run ?_); clear hE a; intro a hE
        refine wpList_nil ?_
        refine then_normal ?_
        refine c_true hE rfl ?_
        refine wp_seq ?_
        refine wp_region_list ?_   -- region 5
        refine l_step rfl (o_pure hE rfl rfl (p_move rfl).run ?_); clear hE a; intro a hE
        refine l_step rfl (o_pure hE rfl rfl (p_assign rfl).run ?_); clear hE a; intro a hE
        refine wpList_nil ?_
        refine then_normal ?_
        refine wp_ret ?_
        refine then_ret ?_
        refine ret1 rfl hE rfl ?_
        exact ⟨rfl, _, hD6, hI⟩
      · intro hk2; replace hk2 := gtr_f hk2; clear hE a; intro a hE
        refine l_step rfl (o_pure hE rfl rfl (p_pick (b := false) rfl rfl).run ?_); clear hE a; intro a hE
        refine l_step rfl (o_pure hE rfl rfl (p_move rfl).run ?_); clear hE a; intro a hE
        refine l_go hE rfl (o_pure hE rfl rfl (p_move rfl).run ?_); clear hE a; intro a hE
        refine l_go hE rfl (o_pure hE rfl rfl (p_not rfl).run ?_); clear hE a; intro a hE
        refine l_step rfl (o_pure hE rfl rfl (p_pick (b := false) rfl rfl).run ?_); clear hE a; intro a hE
        refine wpList_nil ?_
        refine then_normal ?_
        refine c_false hE rfl ?_
        refine wp_skip ?_
        refine then_normal ?_
        refine wp_seq ?_
        refine wp_region_list ?_   -- region 6
        refine l_step rfl (o_call hE rfl rfl rfl rfl ent_32 (empty_spec hI (hS.mono hD6)) ?_)
        clear hI hE a
        rintro r w ⟨D9, s10, q11, hD12, rfl, hP13, hI⟩ a hE
        refine l_step rfl (o_pure hE rfl rfl (p_move rfl).run ?_); clear hE a; intro a hE
        refine l_step rfl (o_pure hE rfl rfl (f_extract rfl rfl).run ?_); clear hE a; intro a hE
        refine l_step rfl (o_pure hE rfl rfl (f_extract rfl rfl).run ?_); clear hE a; intro a hE
        refine l_step rfl (o_pure hE rfl rfl (p_assign rfl).run ?_); clear hE a; intro a hE
        refine l_step rfl (o_pure hE rfl rfl (p_assign rfl).run ?_); clear hE a; intro a hE
        refine wpList_nil ?_
        refine then_normal ?_
        refine wp_seq ?_
        refine wp_seq ?_
        refine wp_region_list ?_   -- region 7
        refine l_step rfl (o_pure hE rfl rfl (p_move rfl).run ?_); clear hE a; intro a hE
        refine l_step rfl (o_pure hE rfl rfl (p_eq rfl rfl (g_none rfl) (e_ptrNil Tryd.underlying52 rfl) rfl rfl).run ?_); clear hE a; intro a hE
        refine wpList_nil ?_
        refine then_normal ?_
        refine c_false hE rfl ?_
        refine wp_skip ?_
        refine then_normal ?_
        refine wp_seq ?_
        refine wp_region_list ?_   -- region 9
        refine l_step rfl (o_pure hE rfl rfl (p_move rfl).run ?_); clear hE a; intro a hE
        refine l_step rfl (o_call hE rfl rfl rfl rfl ent_33 (New_spec hI E0 (some ⟨q11, 0, none⟩)) ?_)
        clear hI hE a
        rintro r w ⟨sb14, hB15, hI⟩ a hE
        obtain ⟨bb16, hvb⟩ := BatchS.ptr hB15
        subst hvb
        refine l_step rfl (o_pure hE rfl rfl (p_assign rfl).run ?_); clear hE a; intro a hE
        refine wpList_nil ?_
        refine then_normal ?_
        refine wp_seq ?_
        refine wp_region_list ?_   -- region 10
        refine l_step rfl (o_pure hE rfl rfl (p_move rfl).run ?_); clear hE a; intro a hE
        refine l_step rfl (o_call hE rfl rfl rfl rfl ent_33 (New_spec hI E0 (some ⟨q11, 0, none⟩)) ?_)
        clear hI hE a
        rintro r w ⟨sb17, hB18, hI⟩ a hE
        obtain ⟨bb19, hvb⟩ := BatchS.ptr hB18
        subst hvb
        refine l_step rfl (o_pure hE rfl rfl (p_assign rfl).run ?_); clear hE a; intro a hE
        refine wpList_nil ?_
        refine then_normal ?_
        refine wp_seq ?_
        refine wp_region_list ?_   -- region 11
        refine l_step rfl (o_pure hE rfl rfl (p_assign rfl).run ?_); clear hE a; intro a hE
        refine wpList_nil ?_
        refine then_normal ?_
        refine wp_seq ?_
        refine wp_seq ?_
        refine wp_region_list ?_   -- region 12
        refine l_step rfl (o_pure hE rfl rfl (p_assign rfl).run ?_); clear hE a; intro a hE
        refine wpList_nil ?_
        refine then_normal ?_
        refine wp_block ?_
        replace hI := hI.bring 2
        replace hI := hI.bring 2
        have hrk : rightK key = true := by rw [rightK, decide_eq_true_eq]; omega
        have hk0 : key ≠ [] := by rintro rfl; simp [rightK] at hrk
        have hlen30 : l.length ≤ 30 := by have := hbf8.1; omega
        have hall := hbf8.2
        refine c_loop (X := Sto × Nat × Bt × Seg × Seg × Bool) (fun x => [(0, _), (1, _), (5, _), (6, _), (7, _), (8, _), (9, _), (10, .bool x.2.2.2.2.2), (11, .int .i64 (x.2.1 : Nat))]) (fun x w => x.2.1 ≤ l.length ∧ Le D9 x.1 ∧ Runs (newBt E0) x.2.2.1 (601 * x.2.1) ∧ Holds x.2.2.1 (putKv (l.take x.2.1) [1]) ∧ (x.2.2.2.2.2 = true ↔ key ∈ l.take x.2.1) ∧ BatchS x.1 (.pointer (some ⟨bb16, 0, none⟩)) (.pointer (some ⟨q11, 0, none⟩)) x.2.2.1 x.2.2.2.1 ∧ PoolS x.1 (.pointer (some ⟨q11, 0, none⟩)) E0 x.2.2.2.2.1 ∧ Inv w0 x.1 (x.2.2.2.1 :: x.2.2.2.2.1 :: sb17 :: ss) w) (fun x => l.length - x.2.1) (D9, 0, newBt E0, sb14, s10, false) (hE.pick [0, 1, 5, 6, 7, 8, 9, 10, 11]) ⟨Nat.zero_le _, Le.refl _, Runs.refl _ _, E0_holds.2, by simp, hB15, hP13, hI⟩ ?_
        clear hE hI a w
        rintro ⟨D1, i, b, sb, sp, tb⟩ a w hE ⟨hi, hD1, hr, hh, htb, hB1, hP1, hI⟩
        try dsimp only at hE
        try dsimp only at hi
        try dsimp only at hD1
        try dsimp only at hr
        try dsimp only at hh
        try dsimp only at htb
        try dsimp only at hB1
        try dsimp only at hP1
        try dsimp only at hI
        refine wp_seq ?_
        refine wp_seq ?_
        refine wp_region_list ?_   -- region 13
        refine l_step rfl (o_pure hE rfl rfl (p_move rfl).run ?_); clear hE a; intro a hE
        refine l_step rfl (o_pure hE rfl rfl (p_move rfl).run ?_); clear hE a; intro a hE
        refine l_step rfl (o_pure hE rfl rfl (p_len rfl rfl Tryd.underlying50).run ?_); clear hE a; intro a hE
        refine l_step rfl (o_cmp hE rfl rfl rfl rfl rfl rfl ?_ ?_)
        · intro hlt; replace hlt := lss_t hlt; clear hE a; intro a hE
          refine wpList_nil ?_
          refine then_normal ?_
          refine c_true hE rfl ?_
          refine wp_skip ?_
          refine then_normal ?_
          refine wp_seq ?_
          refine wp_block ?_
          refine wp_seq ?_
          refine wp_seq ?_
          refine wp_region_list ?_   -- region 15
          refine l_step rfl (o_pure hE rfl rfl (p_move rfl).run ?_); clear hE a; intro a hE
          refine l_step rfl (o_pure hE rfl rfl (p_move rfl).run ?_); clear hE a; intro a hE
          obtain ⟨x_20, hx_20⟩ : ∃ z9, (l)[i]? = some z9 := ⟨_, List.getElem?_eq_getElem (by omega)⟩
          obtain ⟨b_20, o_20, cs_20, T_20, fr_20, rfl, hb_20, hat_20⟩ := hl.at_ (by intro h0; rw [h0] at hx_20; simp at hx_20)
          obtain ⟨vs_20, hl_20, ⟨k_20, rfl, hk_20⟩, hex_20, hsz_20, hce_20⟩ := hat_20.extract hx_20 (by omega)
          obtain ⟨A21, c22, rfl, _⟩ := hk_20.slice
          refine l_step rfl (o_pure hE rfl rfl (p_indexAddr (m := o_20 + i * 1) rfl rfl Tryd.underlying50 sz_22 (by omega) (by omega) (by simp)).run ?_); clear hE a; intro a hE
          refine l_step rfl (o_pure hE rfl rfl (r_load rfl scal_22 (hI.data _ _ (((hD6.trans hD12).trans hD1) _ _ (hb_20))) (hce_20 0 _ rfl)) ?_); clear hE a; intro a hE
          refine l_step rfl (o_pure hE rfl rfl (p_len rfl rfl Tryd.underlying22).run ?_); clear hE a; intro a hE
          refine l_step rfl (o_cmp hE rfl rfl rfl rfl rfl rfl ?_ ?_)
          · intro hlen1; replace hlen1 := lss_t hlen1; clear hE a; intro a hE
            refine wpList_nil ?_
            refine then_normal ?_
            refine c_true hE rfl ?_
            refine wp_exit ?_
            refine then_exit ?_
            refine blk_same ?_
            refine then_normal ?_
            refine wp_region_list ?_   -- region 14
            refine l_step rfl (o_pure hE rfl rfl (p_move rfl).run ?_); clear hE a; intro a hE
            refine l_step rfl (o_pure hE rfl rfl (p_arith (z := ((i + 1 : Nat) : Int)) rfl rfl (add_z (by omega) (by omega) (by omega))).run ?_); clear hE a; intro a hE
            refine l_step rfl (o_pure hE rfl rfl (p_assign rfl).run ?_); clear hE a; intro a hE
            refine wpList_nil ?_
            refine then_normal ?_
            replace hI := hI.bring 2
            replace hI := hI.bring 2
            replace hI := hI.bring 2
            have hnil : x_20 = [] := List.length_eq_zero_iff.1 (by omega)
            obtain ⟨hr9, hh9⟩ := puts_skip hr hh (hnil ▸ hx_20)
            exact ⟨(D1, i + 1, b, sb, sp, tb), hE.pick [0, 1, 5, 6, 7, 8, 9, 10, 11], ⟨by show i + 1 ≤ _; omega, hD1, hr9, hh9, htb.trans ⟨fun h => (mem_take_succ hx_20).2 (.inl h), fun h => ((mem_take_succ hx_20).1 h).resolve_right (fun q => hk0 (q.trans hnil))⟩, hB1, hP1, hI⟩, by show l.length - (i + 1) < l.length - i; omega⟩
          · intro hlen1; replace hlen1 := lss_f hlen1; clear hE a; intro a hE
            refine wpList_nil ?_
            refine then_normal ?_
            refine c_false hE rfl ?_
            refine wp_skip ?_
            refine then_normal ?_
            refine wp_seq ?_
            refine wp_seq ?_
            refine wp_region_list ?_   -- region 16
            refine l_step rfl (o_pure hE rfl rfl (p_move rfl).run ?_); clear hE a; intro a hE
            refine l_step rfl (o_pure hE rfl rfl (p_move rfl).run ?_); clear hE a; intro a hE
            refine l_step rfl (o_pure hE rfl rfl (p_move rfl).run ?_); clear hE a; intro a hE
            refine l_step rfl (o_pure hE rfl rfl (p_indexAddr (m := o_20 + i * 1) rfl rfl Tryd.underlying50 sz_22 (by omega) (by omega) (by simp)).run ?_); clear hE a; intro a hE
            refine l_step rfl (o_pure hE rfl rfl (r_load rfl scal_22 (hI.data _ _ (((hD6.trans hD12).trans hD1) _ _ (hb_20))) (hce_20 0 _ rfl)) ?_); clear hE a; intro a hE
            refine l_step rfl (f_lit (vs := [(0, _)]) (l := [_]) hE hI rfl rfl rfl rfl Tryd.underlying22 zs_5 rfl rfl rfl ?_)
            clear hI hE a w; intro a b23 w hE hI
            obtain ⟨D24, hD25, hIa, hb26⟩ := lit_data [1] 0 hI rfl (by simp)
            replace hI := hIa
            clear hIa
            try simp only [splice, insAt, List.set_cons_succ, List.set_cons_zero, List.setIfInBounds_toArray, Value.cells, List.eraseIdx_cons_succ, List.eraseIdx_cons_zero, List.eraseIdx_zero, List.tail_cons] at hI
            replace hI := hI.bring 1
            replace hI := hI.bring 1
            have hne : x_20 ≠ [] := by intro q; rw [q] at hlen1; simp at hlen1
            obtain ⟨b9, hput, hr9, hh9⟩ := puts_step (v := [1]) (AllOk.new E0_ok) hr hh hx_20 hne (hall _ (List.mem_of_getElem? hx_20)) (by simp) (by omega)
            have hrl := (Runs.len hr).1
            have he0 : (newBt E0).recs.length = 0 := rfl
            refine l_step rfl (o_call hE rfl rfl rfl rfl ent_34 (BPut_ok hI (hS.mono (((hD6.trans hD12).trans hD1).trans hD25)) (hB1.mono hD25) (hP1.mono hD25) (Runs.len hr).2 (hk_20.mono (((hD6.trans hD12).trans hD1).trans hD25)) hb26 (by omega) hput) ?_)
            clear hI hE a
            rintro r w ⟨rfl, D27, sb28, sp29, hD30, hB31, hP32, hI⟩ a hE
            refine l_step rfl (o_pure hE rfl rfl (p_ifaceNil Tryd.underlying25 rfl rfl rfl).run ?_); clear hE a; intro a hE
            refine wpList_nil ?_
            refine then_normal ?_
            refine c_false hE rfl ?_
            refine wp_skip ?_
            refine then_normal ?_
            refine wp_region_list ?_   -- region 18
            refine l_step rfl (o_pure hE rfl rfl (p_move rfl).run ?_); clear hE a; intro a hE
            refine l_step rfl (o_pure hE rfl rfl (p_move rfl).run ?_); clear hE a; intro a hE
            rcases Bool.eq_false_or_eq_true tb with rfl | rfl
            · replace htb := iff_t htb
              refine l_skip hE rfl rfl rfl ?_; clear hE a; intro a hE
              refine l_skip hE rfl rfl rfl ?_; clear hE a; intro a hE
              refine l_skip hE rfl rfl rfl ?_; clear hE a; intro a hE
              refine l_skip hE rfl rfl rfl ?_; clear hE a; intro a hE
              refine l_skip hE rfl rfl rfl ?_; clear hE a; intro a hE
              refine l_skip hE rfl rfl rfl ?_; clear hE a; intro a hE
              refine l_step rfl (o_pure hE rfl rfl (p_pick (b := true) rfl rfl).run ?_); clear hE a; intro a hE
              refine l_step rfl (o_pure hE rfl rfl (p_assign rfl).run ?_); clear hE a; intro a hE
              refine wpList_nil ?_
              refine blk_normal ?_
              refine then_normal ?_
              refine wp_region_list ?_   -- region 14
              refine l_step rfl (o_pure hE rfl rfl (p_move rfl).run ?_); clear hE a; intro a hE
              refine l_step rfl (o_pure hE rfl rfl (p_arith (z := ((i + 1 : Nat) : Int)) rfl rfl (add_z (by omega) (by omega) (by omega))).run ?_); clear hE a; intro a hE
              refine l_step rfl (o_pure hE rfl rfl (p_assign rfl).run ?_); clear hE a; intro a hE
              refine wpList_nil ?_
              refine then_normal ?_
              replace hI := hI.bring 2
              replace hI := hI.bring 2
              replace hI := hI.bring 2
              exact ⟨(D27, i + 1, b9, sb28, sp29, true), hE.pick [0, 1, 5, 6, 7, 8, 9, 10, 11], ⟨by show i + 1 ≤ _; omega, ((hD1.trans hD25).trans hD30), hr9, hh9, ⟨fun _ => (mem_take_succ hx_20).2 (.inl htb), fun _ => rfl⟩, hB31, hP32, hI⟩, by show l.length - (i + 1) < l.length - i; omega⟩
            · replace htb := iff_f htb
              refine l_go hE rfl (o_pure hE rfl rfl (p_move rfl).run ?_); clear hE a; intro a hE
              refine l_go hE rfl (o_pure hE rfl rfl (p_move rfl).run ?_); clear hE a; intro a hE
              refine l_go hE rfl (o_pure hE rfl rfl (p_indexAddr (m := o_20 + i * 1) rfl rfl Tryd.underlying50 sz_22 (by omega) (by omega) (by simp)).run ?_); clear hE a; intro a hE
              refine l_go hE rfl (o_pure hE rfl rfl (r_load rfl scal_22 (hI.data _ _ (((((hD6.trans hD12).trans hD1).trans hD25).trans hD30) _ _ (hb_20))) (hce_20 0 _ rfl)) ?_); clear hE a; intro a hE
              refine l_go hE rfl (o_pure hE rfl rfl (p_move rfl).run ?_); clear hE a; intro a hE
              refine l_go hE rfl (o_call hE rfl rfl rfl rfl ent_18 (SameBytes_spec hI (hk_20.mono ((((hD6.trans hD12).trans hD1).trans hD25).trans hD30)) (hk.mono ((((hD6.trans hD12).trans hD1).trans hD25).trans hD30)) (by have := hall _ (List.mem_of_getElem? hx_20); omega)) ?_)
              clear hI hE a
              rintro r w h a hE; rcases h with ⟨rfl, heq33, hI⟩ | ⟨rfl, heq33, hI⟩
              · skip
                refine l_step rfl (o_pure hE rfl rfl (p_pick (b := false) rfl rfl).run ?_); clear hE a; intro a hE
                refine l_step rfl (o_pure hE rfl rfl (p_assign rfl).run ?_); clear hE a; intro a hE
                refine wpList_nil ?_
                refine blk_normal ?_
                refine then_normal ?_
                refine wp_region_list ?_   -- region 14
                refine l_step rfl (o_pure hE rfl rfl (p_move rfl).run ?_); clear hE a; intro a hE
                refine l_step rfl (o_pure hE rfl rfl (p_arith (z := ((i + 1 : Nat) : Int)) rfl rfl (add_z (by omega) (by omega) (by omega))).run ?_); clear hE a; intro a hE
                refine l_step rfl (o_pure hE rfl rfl (p_assign rfl).run ?_); clear hE a; intro a hE
                refine wpList_nil ?_
                refine then_normal ?_
                replace hI := hI.bring 2
                replace hI := hI.bring 2
                replace hI := hI.bring 2
                exact ⟨(D27, i + 1, b9, sb28, sp29, true), hE.pick [0, 1, 5, 6, 7, 8, 9, 10, 11], ⟨by show i + 1 ≤ _; omega, ((hD1.trans hD25).trans hD30), hr9, hh9, ⟨fun _ => (mem_take_succ hx_20).2 (.inr (Eq.symm heq33)), fun _ => rfl⟩, hB31, hP32, hI⟩, by show l.length - (i + 1) < l.length - i; omega⟩
              · skip
                refine l_step rfl (o_pure hE rfl rfl (p_pick (b := false) rfl rfl).run ?_); clear hE a; intro a hE
                refine l_step rfl (o_pure hE rfl rfl (p_assign rfl).run ?_); clear hE a; intro a hE
                refine wpList_nil ?_
                refine blk_normal ?_
                refine then_normal ?_
                refine wp_region_list ?_   -- region 14
                refine l_step rfl (o_pure hE rfl rfl (p_move rfl).run ?_); clear hE a; intro a hE
                refine l_step rfl (o_pure hE rfl rfl (p_arith (z := ((i + 1 : Nat) : Int)) rfl rfl (add_z (by omega) (by omega) (by omega))).run ?_); clear hE a; intro a hE
                refine l_step rfl (o_pure hE rfl rfl (p_assign rfl).run ?_); clear hE a; intro a hE
                refine wpList_nil ?_
                refine then_normal ?_
                replace hI := hI.bring 2
                replace hI := hI.bring 2
                replace hI := hI.bring 2
                exact ⟨(D27, i + 1, b9, sb28, sp29, false), hE.pick [0, 1, 5, 6, 7, 8, 9, 10, 11], ⟨by show i + 1 ≤ _; omega, ((hD1.trans hD25).trans hD30), hr9, hh9, ⟨fun h => Bool.noConfusion h, fun h => ((mem_take_succ hx_20).1 h).elim (fun q => absurd q htb) (fun q => absurd q.symm heq33)⟩, hB31, hP32, hI⟩, by show l.length - (i + 1) < l.length - i; omega⟩
        · intro hlt; replace hlt := lss_f hlt; clear hE a; intro a hE
          refine wpList_nil ?_
          refine then_normal ?_
          refine c_false hE rfl ?_
          refine wp_exit ?_
          refine then_exit ?_
          refine then_exit ?_
          refine blk_same ?_
          refine then_normal ?_
          refine wp_seq ?_
          refine wp_seq ?_
          refine wp_region_list ?_   -- region 19
          refine l_step rfl (o_pure hE rfl rfl (p_move rfl).run ?_); clear hE a; intro a hE
          refine l_step rfl (o_pure hE rfl rfl (p_move rfl).run ?_); clear hE a; intro a hE
          refine l_step rfl (f_lit (vs := [(0, _)]) (l := [_]) hE hI rfl rfl rfl rfl Tryd.underlying22 zs_5 rfl rfl rfl ?_)
          clear hI hE a w; intro a b34 w hE hI
          obtain ⟨D35, hD36, hIa, hb37⟩ := lit_data [2] 0 hI rfl (by simp)
          replace hI := hIa
          clear hIa
          try simp only [splice, insAt, List.set_cons_succ, List.set_cons_zero, List.setIfInBounds_toArray, Value.cells, List.eraseIdx_cons_succ, List.eraseIdx_cons_zero, List.eraseIdx_zero, List.tail_cons] at hI
          replace hI := hI.bring 1
          replace hI := hI.bring 2
          obtain ⟨b8, hput8, hget8, hpool8⟩ := one_put (key := key) (v := [2]) hrk (by simp)
          refine l_step rfl (o_call hE rfl rfl rfl rfl ent_34 (BPut_ok hI (hS.mono (((hD6.trans hD12).trans hD1).trans hD36)) (hB18.mono (hD1.trans hD36)) (hP1.mono hD36) rfl (hk.mono (((hD6.trans hD12).trans hD1).trans hD36)) hb37 (by show (0 : Nat) ≤ _; omega) hput8) ?_)
          clear hI hE a
          rintro r w ⟨rfl, D38, sb39, sp40, hD41, hB42, hP43, hI⟩ a hE
          refine l_step rfl (o_pure hE rfl rfl (p_ifaceNil Tryd.underlying25 rfl rfl rfl).run ?_); clear hE a; intro a hE
          refine wpList_nil ?_
          refine then_normal ?_
          refine c_false hE rfl ?_
          refine wp_skip ?_
          refine then_normal ?_
          refine wp_seq ?_
          refine wp_region_list ?_   -- region 21
          refine l_step rfl (o_pure hE rfl rfl (p_move rfl).run ?_); clear hE a; intro a hE
          refine l_step rfl (o_pure hE rfl rfl (p_move rfl).run ?_); clear hE a; intro a hE
          have hfull2 : l.take i = l := List.take_of_length_le (by omega)
          have hfull : Holds b (putKv l [1]) := by rw [hfull2] at hh; exact hh
          rw [hfull2] at htb
          rcases Bool.eq_false_or_eq_true tb with rfl | rfl
          · replace htb := iff_t htb
            replace hI := hI.bring 1
            replace hI := hI.bring 2
            refine l_step rfl (o_call hE rfl rfl rfl rfl ent_35 (BGet_ok (res := (some [1])) hI (hS.mono ((((hD6.trans hD12).trans hD1).trans hD36).trans hD41)) (hB1.mono (hD36.trans hD41)) hP43 (Runs.len hr).2 (hk.mono ((((hD6.trans hD12).trans hD1).trans hD36).trans hD41)) ((puts_get hfull (by omega) hrk).trans (by rw [if_pos htb]))) ?_)
            clear hI hE a
            rintro r w ⟨D44, vr45, sb46, sp47, hD48, rfl, hr49, hB50, hP51, hI⟩ a hE
            replace hr49 : RB D44 vr45 [1] := hr49
            have hl_hr49 : ([1] : List Nat).length = 1 := rfl
            obtain ⟨A52, c53, rfl, _⟩ := hr49.slice
            refine l_step rfl (o_pure hE rfl rfl (p_move rfl).run ?_); clear hE a; intro a hE
            refine l_step rfl (o_pure hE rfl rfl (f_extract rfl rfl).run ?_); clear hE a; intro a hE
            refine l_step rfl (o_pure hE rfl rfl (f_extract rfl rfl).run ?_); clear hE a; intro a hE
            refine l_step rfl (o_pure hE rfl rfl (f_extract rfl rfl).run ?_); clear hE a; intro a hE
            refine l_step rfl (o_pure hE rfl rfl (p_assign rfl).run ?_); clear hE a; intro a hE
            refine l_step rfl (o_pure hE rfl rfl (p_assign rfl).run ?_); clear hE a; intro a hE
            refine l_step rfl (o_pure hE rfl rfl (p_assign rfl).run ?_); clear hE a; intro a hE
            refine wpList_nil ?_
            refine then_normal ?_
            refine wp_seq ?_
            refine wp_region_list ?_   -- region 22
            refine l_step rfl (o_pure hE rfl rfl (p_move rfl).run ?_); clear hE a; intro a hE
            refine l_step rfl (o_pure hE rfl rfl (p_move rfl).run ?_); clear hE a; intro a hE
            replace hI := hI.bring 1
            replace hI := hI.bring 2
            refine l_step rfl (o_call hE rfl rfl rfl rfl ent_35 (BGet_ok (res := (some [2])) hI (hS.mono (((((hD6.trans hD12).trans hD1).trans hD36).trans hD41).trans hD48)) (hB42.mono hD48) hP51 hpool8 (hk.mono (((((hD6.trans hD12).trans hD1).trans hD36).trans hD41).trans hD48)) hget8) ?_)
            clear hI hE a
            rintro r w ⟨D54, vr55, sb56, sp57, hD58, rfl, hr59, hB60, hP61, hI⟩ a hE
            replace hr59 : RB D54 vr55 [2] := hr59
            have hl_hr59 : ([2] : List Nat).length = 1 := rfl
            obtain ⟨A62, c63, rfl, _⟩ := hr59.slice
            refine l_step rfl (o_pure hE rfl rfl (p_move rfl).run ?_); clear hE a; intro a hE
            refine l_step rfl (o_pure hE rfl rfl (f_extract rfl rfl).run ?_); clear hE a; intro a hE
            refine l_step rfl (o_pure hE rfl rfl (f_extract rfl rfl).run ?_); clear hE a; intro a hE
            refine l_step rfl (o_pure hE rfl rfl (f_extract rfl rfl).run ?_); clear hE a; intro a hE
            refine l_step rfl (o_pure hE rfl rfl (p_assign rfl).run ?_); clear hE a; intro a hE
            refine l_step rfl (o_pure hE rfl rfl (p_assign rfl).run ?_); clear hE a; intro a hE
            refine l_step rfl (o_pure hE rfl rfl (p_assign rfl).run ?_); clear hE a; intro a hE
            refine wpList_nil ?_
            refine then_normal ?_
            refine wp_seq ?_
            refine wp_seq ?_
            refine wp_region_list ?_   -- region 23
            refine l_step rfl (o_pure hE rfl rfl (p_move rfl).run ?_); clear hE a; intro a hE
            refine l_step rfl (o_pure hE rfl rfl (p_ifaceNil Tryd.underlying25 rfl rfl rfl).run ?_); clear hE a; intro a hE
            refine l_step rfl (o_pure hE rfl rfl (p_move rfl).run ?_); clear hE a; intro a hE
            refine l_go hE rfl (o_pure hE rfl rfl (p_move rfl).run ?_); clear hE a; intro a hE
            refine l_go hE rfl (o_pure hE rfl rfl (p_ifaceNil Tryd.underlying25 rfl rfl rfl).run ?_); clear hE a; intro a hE
            refine l_step rfl (o_pure hE rfl rfl (p_pick (b := false) rfl rfl).run ?_); clear hE a; intro a hE
            refine l_step rfl (o_pure hE rfl rfl (p_move rfl).run ?_); clear hE a; intro a hE
            refine l_go hE rfl (o_pure hE rfl rfl (p_move rfl).run ?_); clear hE a; intro a hE
            refine l_go hE rfl (o_pure hE rfl rfl (p_move rfl).run ?_); clear hE a; intro a hE
            refine l_go hE rfl (o_pure hE rfl rfl (p_boolEq Tryd.underlying4 rfl rfl rfl).run ?_); clear hE a; intro a hE
            refine l_step rfl (o_pure hE rfl rfl (p_pick (b := false) rfl rfl).run ?_); clear hE a; intro a hE
            refine l_step rfl (o_pure hE rfl rfl (p_move rfl).run ?_); clear hE a; intro a hE
            refine l_go hE rfl (o_pure hE rfl rfl (p_move rfl).run ?_); clear hE a; intro a hE
            refine l_go hE rfl (o_pure hE rfl rfl (p_move rfl).run ?_); clear hE a; intro a hE
            refine l_go hE rfl (o_pure hE rfl rfl (p_move rfl).run ?_); clear hE a; intro a hE
            refine l_go hE rfl (o_pure hE rfl rfl (p_len rfl rfl Tryd.underlying22).run ?_); clear hE a; intro a hE
            refine l_go hE rfl (o_pure hE rfl rfl (p_cmp rfl rfl (neq_n (rfl))).run ?_); clear hE a; intro a hE
            refine l_go hE rfl (o_pure hE rfl rfl (p_move rfl).run ?_); clear hE a; intro a hE
            refine l_go hE rfl (o_pure hE rfl rfl (p_move rfl).run ?_); clear hE a; intro a hE
            obtain ⟨b_64, o_64, cs_64, T_64, fr_64, rfl, hb_64, hc_64⟩ := hr49.at_ (by simp)
            refine l_go hE rfl (o_pure hE rfl rfl (p_indexAddr rfl rfl Tryd.underlying22 sz_5 (by omega) (by show (0 : Int) < ((1 : Nat) : Int); omega) rfl).run ?_); clear hE a; intro a hE
            refine l_go hE rfl (o_pure hE rfl rfl (r_load rfl scal_5 (hI.data _ _ (hD58 _ _ (hb_64))) (RB.cell hc_64 (by omega) (by omega))) ?_); clear hE a; intro a hE
            refine l_go hE rfl (o_pure hE rfl rfl (p_cmp rfl rfl (neq_n (rfl))).run ?_); clear hE a; intro a hE
            refine l_go hE rfl (o_pure hE rfl rfl (p_pick (b := false) rfl rfl).run ?_); clear hE a; intro a hE
            refine l_go hE rfl (o_pure hE rfl rfl (p_pick (b := true) rfl rfl).run ?_); clear hE a; intro a hE
            refine l_step rfl (o_pure hE rfl rfl (p_pick (b := false) rfl rfl).run ?_); clear hE a; intro a hE
            refine l_step rfl (o_pure hE rfl rfl (p_move rfl).run ?_); clear hE a; intro a hE
            refine l_go hE rfl (o_pure hE rfl rfl (p_move rfl).run ?_); clear hE a; intro a hE
            refine l_go hE rfl (o_pure hE rfl rfl (p_not rfl).run ?_); clear hE a; intro a hE
            refine l_step rfl (o_pure hE rfl rfl (p_pick (b := false) rfl rfl).run ?_); clear hE a; intro a hE
            refine l_step rfl (o_pure hE rfl rfl (p_move rfl).run ?_); clear hE a; intro a hE
            refine l_go hE rfl (o_pure hE rfl rfl (p_move rfl).run ?_); clear hE a; intro a hE
            refine l_go hE rfl (o_pure hE rfl rfl (p_len rfl rfl Tryd.underlying22).run ?_); clear hE a; intro a hE
            refine l_go hE rfl (o_pure hE rfl rfl (p_cmp rfl rfl (neq_n (rfl))).run ?_); clear hE a; intro a hE
            refine l_step rfl (o_pure hE rfl rfl (p_pick (b := false) rfl rfl).run ?_); clear hE a; intro a hE
            refine l_step rfl (o_pure hE rfl rfl (p_move rfl).run ?_); clear hE a; intro a hE
            refine l_go hE rfl (o_pure hE rfl rfl (p_move rfl).run ?_); clear hE a; intro a hE
            obtain ⟨b_65, o_65, cs_65, T_65, fr_65, rfl, hb_65, hc_65⟩ := hr59.at_ (by simp)
            refine l_go hE rfl (o_pure hE rfl rfl (p_indexAddr rfl rfl Tryd.underlying22 sz_5 (by omega) (by show (0 : Int) < ((1 : Nat) : Int); omega) rfl).run ?_); clear hE a; intro a hE
            refine l_go hE rfl (o_pure hE rfl rfl (r_load rfl scal_5 (hI.data _ _ (hb_65)) (RB.cell hc_65 (by omega) (by omega))) ?_); clear hE a; intro a hE
            refine l_go hE rfl (o_pure hE rfl rfl (p_cmp rfl rfl (neq_n (rfl))).run ?_); clear hE a; intro a hE
            refine l_step rfl (o_pure hE rfl rfl (p_pick (b := false) rfl rfl).run ?_); clear hE a; intro a hE
            refine wpList_nil ?_
            refine then_normal ?_
            refine c_false hE rfl ?_
            refine wp_skip ?_
            refine then_normal ?_
            refine wp_seq ?_
            refine wp_seq ?_
            refine wp_region_list ?_   -- region 25
            refine l_step rfl (o_pure hE rfl rfl (p_move rfl).run ?_); clear hE a; intro a hE
            refine l_step rfl (o_pure hE rfl rfl (p_move rfl).run ?_); clear hE a; intro a hE
            replace hI := hI.bring 1
            replace hI := hI.bring 2
            have hrl := (Runs.len hr).1
            have he0 : (newBt E0).recs.length = 0 := rfl
            refine l_step rfl (o_call hE rfl rfl rfl rfl ent_37 (Redo_ok hI (hS.mono ((((((hD6.trans hD12).trans hD1).trans hD36).trans hD41).trans hD48).trans hD58)) (hB50.mono hD58) hP61 (Runs.len hr).2 (by omega)) ?_)
            clear hI hE a
            rintro r w ⟨D66, sb67, sp68, hD69, hL70, hB71, hP72, hI⟩ a hE
            obtain ⟨A73, c74, rfl, _⟩ := hL70.slice
            refine l_step rfl (o_pure hE rfl rfl (p_move rfl).run ?_); clear hE a; intro a hE
            obtain ⟨_, P9, hlaid, hPH⟩ := laid_holds E0_ok (by omega) hr (by omega) hfull (by have := putKv_len [1] _ l rfl; omega)
            refine l_step rfl (o_call hE rfl rfl rfl rfl ent_36 (laid_spec (hI.bring 1) hP72 (hS.mono (((((((hD6.trans hD12).trans hD1).trans hD36).trans hD41).trans hD48).trans hD58).trans hD69)) hL70 (n := 4) (by omega) (by omega) (by omega)) ?_)
            clear hI hE a
            rintro r w h a hE; rcases h with ⟨D75, s76, P77, hD78, hP79, hI, ⟨m80, hla81, rfl⟩ | ⟨hla81, m80, rfl⟩⟩
            · skip
              replace hI := hI.put_back 1
              try simp only [splice, insAt, List.set_cons_succ, List.set_cons_zero, List.setIfInBounds_toArray, Value.cells, List.eraseIdx_cons_succ, List.eraseIdx_cons_zero, List.eraseIdx_zero, List.tail_cons] at hI
              rw [hlaid] at hla81
              injection hla81 with hla81
              injection hla81 with hz1 hz2
              subst hz1
              refine l_step rfl (o_pure hE rfl rfl (p_move rfl).run ?_); clear hE a; intro a hE
              refine l_step rfl (o_pure hE rfl rfl (f_extract rfl rfl).run ?_); clear hE a; intro a hE
              refine l_step rfl (o_pure hE rfl rfl (f_extract rfl rfl).run ?_); clear hE a; intro a hE
              refine l_step rfl (o_pure hE rfl rfl (p_assign rfl).run ?_); clear hE a; intro a hE
              refine l_step rfl (o_pure hE rfl rfl (p_assign rfl).run ?_); clear hE a; intro a hE
              refine wpList_nil ?_
              refine then_normal ?_
              refine wp_seq ?_
              refine wp_region_list ?_   -- region 26
              refine l_step rfl (o_pure hE rfl rfl (p_move rfl).run ?_); clear hE a; intro a hE
              refine l_step rfl (o_pure hE rfl rfl (p_not rfl).run ?_); clear hE a; intro a hE
              refine wpList_nil ?_
              refine then_normal ?_
              refine c_false hE rfl ?_
              refine wp_skip ?_
              refine then_normal ?_
              refine wp_seq ?_
              refine wp_region_list ?_   -- region 28
              refine l_step rfl (o_pure hE rfl rfl (p_move rfl).run ?_); clear hE a; intro a hE
              refine l_step rfl (o_call hE rfl rfl rfl rfl ent_33 (New_spec hI P9 (some ⟨q11, 0, none⟩)) ?_)
              clear hI hE a
              rintro r w ⟨sb82, hB83, hI⟩ a hE
              obtain ⟨bb84, hvb⟩ := BatchS.ptr hB83
              subst hvb
              refine l_step rfl (o_pure hE rfl rfl (p_move rfl).run ?_); clear hE a; intro a hE
              replace hI := hI.bring 2
              replace hI := hI.bring 1
              refine l_step rfl (o_call hE rfl rfl rfl rfl ent_35 (BGet_ok (res := (some [1])) hI (hS.mono ((((((((hD6.trans hD12).trans hD1).trans hD36).trans hD41).trans hD48).trans hD58).trans hD69).trans hD78)) hB83 hP79 rfl (hk.mono ((((((((hD6.trans hD12).trans hD1).trans hD36).trans hD41).trans hD48).trans hD58).trans hD69).trans hD78)) ((puts_get hPH.2 (by omega) hrk).trans (by rw [if_pos htb]))) ?_)
              clear hI hE a
              rintro r w ⟨D85, vr86, sb87, sp88, hD89, rfl, hr90, hB91, hP92, hI⟩ a hE
              replace hr90 : RB D85 vr86 [1] := hr90
              have hl_hr90 : ([1] : List Nat).length = 1 := rfl
              obtain ⟨A93, c94, rfl, _⟩ := hr90.slice
              refine l_step rfl (o_pure hE rfl rfl (p_move rfl).run ?_); clear hE a; intro a hE
              refine l_step rfl (o_pure hE rfl rfl (f_extract rfl rfl).run ?_); clear hE a; intro a hE
              refine l_step rfl (o_pure hE rfl rfl (f_extract rfl rfl).run ?_); clear hE a; intro a hE
              refine l_step rfl (o_pure hE rfl rfl (f_extract rfl rfl).run ?_); clear hE a; intro a hE
              refine l_step rfl (o_pure hE rfl rfl (p_assign rfl).run ?_); clear hE a; intro a hE
              refine l_step rfl (o_pure hE rfl rfl (p_assign rfl).run ?_); clear hE a; intro a hE
              refine l_step rfl (o_pure hE rfl rfl (p_assign rfl).run ?_); clear hE a; intro a hE
              refine wpList_nil ?_
              refine then_normal ?_
              refine wp_seq ?_
              refine wp_region_list ?_   -- region 29
              refine l_step rfl (o_pure hE rfl rfl (p_move rfl).run ?_); clear hE a; intro a hE
              refine l_step rfl (o_pure hE rfl rfl (p_ifaceNil Tryd.underlying25 rfl rfl rfl).run ?_); clear hE a; intro a hE
              refine l_step rfl (o_pure hE rfl rfl (p_move rfl).run ?_); clear hE a; intro a hE
              refine l_go hE rfl (o_pure hE rfl rfl (p_move rfl).run ?_); clear hE a; intro a hE
              refine l_go hE rfl (o_pure hE rfl rfl (p_move rfl).run ?_); clear hE a; intro a hE
              refine l_go hE rfl (o_pure hE rfl rfl (p_boolEq Tryd.underlying4 rfl rfl rfl).run ?_); clear hE a; intro a hE
              refine l_step rfl (o_pure hE rfl rfl (p_pick (b := true) rfl rfl).run ?_); clear hE a; intro a hE
              refine l_step rfl (o_pure hE rfl rfl (p_move rfl).run ?_); clear hE a; intro a hE
              refine l_go hE rfl (o_pure hE rfl rfl (p_move rfl).run ?_); clear hE a; intro a hE
              refine l_go hE rfl (o_pure hE rfl rfl (p_not rfl).run ?_); clear hE a; intro a hE
              refine l_go hE rfl (o_pure hE rfl rfl (p_move rfl).run ?_); clear hE a; intro a hE
              refine l_go hE rfl (o_pure hE rfl rfl (p_move rfl).run ?_); clear hE a; intro a hE
              refine l_go hE rfl (o_pure hE rfl rfl (p_len rfl rfl Tryd.underlying22).run ?_); clear hE a; intro a hE
              refine l_go hE rfl (o_pure hE rfl rfl (p_cmp rfl rfl (eql_y (rfl))).run ?_); clear hE a; intro a hE
              refine l_go hE rfl (o_pure hE rfl rfl (p_move rfl).run ?_); clear hE a; intro a hE
              refine l_go hE rfl (o_pure hE rfl rfl (p_move rfl).run ?_); clear hE a; intro a hE
              obtain ⟨b_95, o_95, cs_95, T_95, fr_95, rfl, hb_95, hc_95⟩ := hr90.at_ (by simp)
              refine l_go hE rfl (o_pure hE rfl rfl (p_indexAddr rfl rfl Tryd.underlying22 sz_5 (by omega) (by show (0 : Int) < ((1 : Nat) : Int); omega) rfl).run ?_); clear hE a; intro a hE
              refine l_go hE rfl (o_pure hE rfl rfl (r_load rfl scal_5 (hI.data _ _ (hb_95)) (RB.cell hc_95 (by omega) (by omega))) ?_); clear hE a; intro a hE
              refine l_go hE rfl (o_pure hE rfl rfl (p_cmp rfl rfl (eql_y (rfl))).run ?_); clear hE a; intro a hE
              refine l_go hE rfl (o_pure hE rfl rfl (p_pick (b := true) rfl rfl).run ?_); clear hE a; intro a hE
              refine l_go hE rfl (o_pure hE rfl rfl (p_pick (b := false) rfl rfl).run ?_); clear hE a; intro a hE
              refine l_step rfl (o_pure hE rfl rfl (p_pick (b := true) rfl rfl).run ?_); clear hE a; intro a hE
              refine l_step rfl (o_pure hE rfl rfl (p_assign rfl).run ?_); clear hE a; intro a hE
              refine wpList_nil ?_
              refine then_normal ?_
              refine wp_ret ?_
              refine ret1 rfl hE rfl ?_
              exact ⟨rfl, _, (((((((((hD6.trans hD12).trans hD1).trans hD36).trans hD41).trans hD48).trans hD58).trans hD69).trans hD78).trans hD89), hI.drop.drop.drop.drop⟩
            · skip
              exfalso
              rw [hlaid] at hla81; cases hla81
          · replace htb := iff_f htb
            replace hI := hI.bring 1
            replace hI := hI.bring 2
            refine l_step rfl (o_call hE rfl rfl rfl rfl ent_35 (BGet_ok (res := none) hI (hS.mono ((((hD6.trans hD12).trans hD1).trans hD36).trans hD41)) (hB1.mono (hD36.trans hD41)) hP43 (Runs.len hr).2 (hk.mono ((((hD6.trans hD12).trans hD1).trans hD36).trans hD41)) ((puts_get hfull (by omega) hrk).trans (by rw [if_neg htb]))) ?_)
            clear hI hE a
            rintro r w ⟨D96, vr97, sb98, sp99, hD100, rfl, hr101, hB102, hP103, hI⟩ a hE
            replace hr101 : RB D96 vr97 [] := hr101
            have hl_hr101 : ([] : List Nat).length = 0 := rfl
            obtain ⟨A104, c105, rfl, _⟩ := hr101.slice
            refine l_step rfl (o_pure hE rfl rfl (p_move rfl).run ?_); clear hE a; intro a hE
            refine l_step rfl (o_pure hE rfl rfl (f_extract rfl rfl).run ?_); clear hE a; intro a hE
            refine l_step rfl (o_pure hE rfl rfl (f_extract rfl rfl).run ?_); clear hE a; intro a hE
            refine l_step rfl (o_pure hE rfl rfl (f_extract rfl rfl).run ?_); clear hE a; intro a hE
            refine l_step rfl (o_pure hE rfl rfl (p_assign rfl).run ?_); clear hE a; intro a hE
            refine l_step rfl (o_pure hE rfl rfl (p_assign rfl).run ?_); clear hE a; intro a hE
            refine l_step rfl (o_pure hE rfl rfl (p_assign rfl).run ?_); clear hE a; intro a hE
            refine wpList_nil ?_
            refine then_normal ?_
            refine wp_seq ?_
            refine wp_region_list ?_   -- region 22
            refine l_step rfl (o_pure hE rfl rfl (p_move rfl).run ?_); clear hE a; intro a hE
            refine l_step rfl (o_pure hE rfl rfl (p_move rfl).run ?_); clear hE a; intro a hE
            replace hI := hI.bring 1
            replace hI := hI.bring 2
            refine l_step rfl (o_call hE rfl rfl rfl rfl ent_35 (BGet_ok (res := (some [2])) hI (hS.mono (((((hD6.trans hD12).trans hD1).trans hD36).trans hD41).trans hD100)) (hB42.mono hD100) hP103 hpool8 (hk.mono (((((hD6.trans hD12).trans hD1).trans hD36).trans hD41).trans hD100)) hget8) ?_)
            clear hI hE a
            rintro r w ⟨D106, vr107, sb108, sp109, hD110, rfl, hr111, hB112, hP113, hI⟩ a hE
            replace hr111 : RB D106 vr107 [2] := hr111
            have hl_hr111 : ([2] : List Nat).length = 1 := rfl
            obtain ⟨A114, c115, rfl, _⟩ := hr111.slice
            refine l_step rfl (o_pure hE rfl rfl (p_move rfl).run ?_); clear hE a; intro a hE
            refine l_step rfl (o_pure hE rfl rfl (f_extract rfl rfl).run ?_); clear hE a; intro a hE
            refine l_step rfl (o_pure hE rfl rfl (f_extract rfl rfl).run ?_); clear hE a; intro a hE
            refine l_step rfl (o_pure hE rfl rfl (f_extract rfl rfl).run ?_); clear hE a; intro a hE
            refine l_step rfl (o_pure hE rfl rfl (p_assign rfl).run ?_); clear hE a; intro a hE
            refine l_step rfl (o_pure hE rfl rfl (p_assign rfl).run ?_); clear hE a; intro a hE
            refine l_step rfl (o_pure hE rfl rfl (p_assign rfl).run ?_); clear hE a; intro a hE
            refine wpList_nil ?_
            refine then_normal ?_
            refine wp_seq ?_
            refine wp_seq ?_
            refine wp_region_list ?_   -- region 23
            refine l_step rfl (o_pure hE rfl rfl (p_move rfl).run ?_); clear hE a; intro a hE
            refine l_step rfl (o_pure hE rfl rfl (p_ifaceNil Tryd.underlying25 rfl rfl rfl).run ?_); clear hE a; intro a hE
            refine l_step rfl (o_pure hE rfl rfl (p_move rfl).run ?_); clear hE a; intro a hE
            refine l_go hE rfl (o_pure hE rfl rfl (p_move rfl).run ?_); clear hE a; intro a hE
            refine l_go hE rfl (o_pure hE rfl rfl (p_ifaceNil Tryd.underlying25 rfl rfl rfl).run ?_); clear hE a; intro a hE
            refine l_step rfl (o_pure hE rfl rfl (p_pick (b := false) rfl rfl).run ?_); clear hE a; intro a hE
            refine l_step rfl (o_pure hE rfl rfl (p_move rfl).run ?_); clear hE a; intro a hE
            refine l_go hE rfl (o_pure hE rfl rfl (p_move rfl).run ?_); clear hE a; intro a hE
            refine l_go hE rfl (o_pure hE rfl rfl (p_move rfl).run ?_); clear hE a; intro a hE
            refine l_go hE rfl (o_pure hE rfl rfl (p_boolEq Tryd.underlying4 rfl rfl rfl).run ?_); clear hE a; intro a hE
            refine l_step rfl (o_pure hE rfl rfl (p_pick (b := false) rfl rfl).run ?_); clear hE a; intro a hE
            refine l_step rfl (o_pure hE rfl rfl (p_move rfl).run ?_); clear hE a; intro a hE
            refine l_go hE rfl (o_pure hE rfl rfl (p_move rfl).run ?_); clear hE a; intro a hE
            refine l_go hE rfl (o_pure hE rfl rfl (p_move rfl).run ?_); clear hE a; intro a hE
            refine l_skip hE rfl rfl rfl ?_; clear hE a; intro a hE
            refine l_skip hE rfl rfl rfl ?_; clear hE a; intro a hE
            refine l_skip hE rfl rfl rfl ?_; clear hE a; intro a hE
            refine l_skip hE rfl rfl rfl ?_; clear hE a; intro a hE
            refine l_skip hE rfl rfl rfl ?_; clear hE a; intro a hE
            refine l_skip hE rfl rfl rfl ?_; clear hE a; intro a hE
            refine l_skip hE rfl rfl rfl ?_; clear hE a; intro a hE
            refine l_skip hE rfl rfl rfl ?_; clear hE a; intro a hE
            refine l_skip hE rfl rfl rfl ?_; clear hE a; intro a hE
            refine l_go hE rfl (o_pure hE rfl rfl (p_pick (b := false) rfl rfl).run ?_); clear hE a; intro a hE
            refine l_step rfl (o_pure hE rfl rfl (p_pick (b := false) rfl rfl).run ?_); clear hE a; intro a hE
            refine l_step rfl (o_pure hE rfl rfl (p_move rfl).run ?_); clear hE a; intro a hE
            refine l_go hE rfl (o_pure hE rfl rfl (p_move rfl).run ?_); clear hE a; intro a hE
            refine l_go hE rfl (o_pure hE rfl rfl (p_not rfl).run ?_); clear hE a; intro a hE
            refine l_step rfl (o_pure hE rfl rfl (p_pick (b := false) rfl rfl).run ?_); clear hE a; intro a hE
            refine l_step rfl (o_pure hE rfl rfl (p_move rfl).run ?_); clear hE a; intro a hE
            refine l_go hE rfl (o_pure hE rfl rfl (p_move rfl).run ?_); clear hE a; intro a hE
            refine l_go hE rfl (o_pure hE rfl rfl (p_len rfl rfl Tryd.underlying22).run ?_); clear hE a; intro a hE
            refine l_go hE rfl (o_pure hE rfl rfl (p_cmp rfl rfl (neq_n (rfl))).run ?_); clear hE a; intro a hE
            refine l_step rfl (o_pure hE rfl rfl (p_pick (b := false) rfl rfl).run ?_); clear hE a; intro a hE
            refine l_step rfl (o_pure hE rfl rfl (p_move rfl).run ?_); clear hE a; intro a hE
            refine l_go hE rfl (o_pure hE rfl rfl (p_move rfl).run ?_); clear hE a; intro a hE
            obtain ⟨b_116, o_116, cs_116, T_116, fr_116, rfl, hb_116, hc_116⟩ := hr111.at_ (by simp)
            refine l_go hE rfl (o_pure hE rfl rfl (p_indexAddr rfl rfl Tryd.underlying22 sz_5 (by omega) (by show (0 : Int) < ((1 : Nat) : Int); omega) rfl).run ?_); clear hE a; intro a hE
            refine l_go hE rfl (o_pure hE rfl rfl (r_load rfl scal_5 (hI.data _ _ (hb_116)) (RB.cell hc_116 (by omega) (by omega))) ?_); clear hE a; intro a hE
            refine l_go hE rfl (o_pure hE rfl rfl (p_cmp rfl rfl (neq_n (rfl))).run ?_); clear hE a; intro a hE
            refine l_step rfl (o_pure hE rfl rfl (p_pick (b := false) rfl rfl).run ?_); clear hE a; intro a hE
            refine wpList_nil ?_
            refine then_normal ?_
            refine c_false hE rfl ?_
            refine wp_skip ?_
            refine then_normal ?_
            refine wp_seq ?_
            refine wp_seq ?_
            refine wp_region_list ?_   -- region 25
            refine l_step rfl (o_pure hE rfl rfl (p_move rfl).run ?_); clear hE a; intro a hE
            refine l_step rfl (o_pure hE rfl rfl (p_move rfl).run ?_); clear hE a; intro a hE
            replace hI := hI.bring 1
            replace hI := hI.bring 2
            have hrl := (Runs.len hr).1
            have he0 : (newBt E0).recs.length = 0 := rfl
            refine l_step rfl (o_call hE rfl rfl rfl rfl ent_37 (Redo_ok hI (hS.mono ((((((hD6.trans hD12).trans hD1).trans hD36).trans hD41).trans hD100).trans hD110)) (hB102.mono hD110) hP113 (Runs.len hr).2 (by omega)) ?_)
            clear hI hE a
            rintro r w ⟨D117, sb118, sp119, hD120, hL121, hB122, hP123, hI⟩ a hE
            obtain ⟨A124, c125, rfl, _⟩ := hL121.slice
            refine l_step rfl (o_pure hE rfl rfl (p_move rfl).run ?_); clear hE a; intro a hE
            obtain ⟨_, P9, hlaid, hPH⟩ := laid_holds E0_ok (by omega) hr (by omega) hfull (by have := putKv_len [1] _ l rfl; omega)
            refine l_step rfl (o_call hE rfl rfl rfl rfl ent_36 (laid_spec (hI.bring 1) hP123 (hS.mono (((((((hD6.trans hD12).trans hD1).trans hD36).trans hD41).trans hD100).trans hD110).trans hD120)) hL121 (n := 4) (by omega) (by omega) (by omega)) ?_)
            clear hI hE a
            rintro r w h a hE; rcases h with ⟨D126, s127, P128, hD129, hP130, hI, ⟨m131, hla132, rfl⟩ | ⟨hla132, m131, rfl⟩⟩
            · skip
              replace hI := hI.put_back 1
              try simp only [splice, insAt, List.set_cons_succ, List.set_cons_zero, List.setIfInBounds_toArray, Value.cells, List.eraseIdx_cons_succ, List.eraseIdx_cons_zero, List.eraseIdx_zero, List.tail_cons] at hI
              rw [hlaid] at hla132
              injection hla132 with hla132
              injection hla132 with hz1 hz2
              subst hz1
              refine l_step rfl (o_pure hE rfl rfl (p_move rfl).run ?_); clear hE a; intro a hE
              refine l_step rfl (o_pure hE rfl rfl (f_extract rfl rfl).run ?_); clear hE a; intro a hE
              refine l_step rfl (o_pure hE rfl rfl (f_extract rfl rfl).run ?_); clear hE a; intro a hE
              refine l_step rfl (o_pure hE rfl rfl (p_assign rfl).run ?_); clear hE a; intro a hE
              refine l_step rfl (o_pure hE rfl rfl (p_assign rfl).run ?_); clear hE a; intro a hE
              refine wpList_nil ?_
              refine then_normal ?_
              refine wp_seq ?_
              refine wp_region_list ?_   -- region 26
              refine l_step rfl (o_pure hE rfl rfl (p_move rfl).run ?_); clear hE a; intro a hE
              refine l_step rfl (o_pure hE rfl rfl (p_not rfl).run ?_); clear hE a; intro a hE
              refine wpList_nil ?_
              refine then_normal ?_
              refine c_false hE rfl ?_
              refine wp_skip ?_
              refine then_normal ?_
              refine wp_seq ?_
              refine wp_region_list ?_   -- region 28
              refine l_step rfl (o_pure hE rfl rfl (p_move rfl).run ?_); clear hE a; intro a hE
              refine l_step rfl (o_call hE rfl rfl rfl rfl ent_33 (New_spec hI P9 (some ⟨q11, 0, none⟩)) ?_)
              clear hI hE a
              rintro r w ⟨sb133, hB134, hI⟩ a hE
              obtain ⟨bb135, hvb⟩ := BatchS.ptr hB134
              subst hvb
              refine l_step rfl (o_pure hE rfl rfl (p_move rfl).run ?_); clear hE a; intro a hE
              replace hI := hI.bring 2
              replace hI := hI.bring 1
              refine l_step rfl (o_call hE rfl rfl rfl rfl ent_35 (BGet_ok (res := none) hI (hS.mono ((((((((hD6.trans hD12).trans hD1).trans hD36).trans hD41).trans hD100).trans hD110).trans hD120).trans hD129)) hB134 hP130 rfl (hk.mono ((((((((hD6.trans hD12).trans hD1).trans hD36).trans hD41).trans hD100).trans hD110).trans hD120).trans hD129)) ((puts_get hPH.2 (by omega) hrk).trans (by rw [if_neg htb]))) ?_)
              clear hI hE a
              rintro r w ⟨D136, vr137, sb138, sp139, hD140, rfl, hr141, hB142, hP143, hI⟩ a hE
              replace hr141 : RB D136 vr137 [] := hr141
              have hl_hr141 : ([] : List Nat).length = 0 := rfl
              obtain ⟨A144, c145, rfl, _⟩ := hr141.slice
              refine l_step rfl (o_pure hE rfl rfl (p_move rfl).run ?_); clear hE a; intro a hE
              refine l_step rfl (o_pure hE rfl rfl (f_extract rfl rfl).run ?_); clear hE a; intro a hE
              refine l_step rfl (o_pure hE rfl rfl (f_extract rfl rfl).run ?_); clear hE a; intro a hE
              refine l_step rfl (o_pure hE rfl rfl (f_extract rfl rfl).run ?_); clear hE a; intro a hE
              refine l_step rfl (o_pure hE rfl rfl (p_assign rfl).run ?_); clear hE a; intro a hE
              refine l_step rfl (o_pure hE rfl rfl (p_assign rfl).run ?_); clear hE a; intro a hE
              refine l_step rfl (o_pure hE rfl rfl (p_assign rfl).run ?_); clear hE a; intro a hE
              refine wpList_nil ?_
              refine then_normal ?_
              refine wp_seq ?_
              refine wp_region_list ?_   -- region 29
              refine l_step rfl (o_pure hE rfl rfl (p_move rfl).run ?_); clear hE a; intro a hE
              refine l_step rfl (o_pure hE rfl rfl (p_ifaceNil Tryd.underlying25 rfl rfl rfl).run ?_); clear hE a; intro a hE
              refine l_step rfl (o_pure hE rfl rfl (p_move rfl).run ?_); clear hE a; intro a hE
              refine l_go hE rfl (o_pure hE rfl rfl (p_move rfl).run ?_); clear hE a; intro a hE
              refine l_go hE rfl (o_pure hE rfl rfl (p_move rfl).run ?_); clear hE a; intro a hE
              refine l_go hE rfl (o_pure hE rfl rfl (p_boolEq Tryd.underlying4 rfl rfl rfl).run ?_); clear hE a; intro a hE
              refine l_step rfl (o_pure hE rfl rfl (p_pick (b := true) rfl rfl).run ?_); clear hE a; intro a hE
              refine l_step rfl (o_pure hE rfl rfl (p_move rfl).run ?_); clear hE a; intro a hE
              refine l_go hE rfl (o_pure hE rfl rfl (p_move rfl).run ?_); clear hE a; intro a hE
              refine l_go hE rfl (o_pure hE rfl rfl (p_not rfl).run ?_); clear hE a; intro a hE
              refine l_go hE rfl (o_pure hE rfl rfl (p_move rfl).run ?_); clear hE a; intro a hE
              refine l_skip hE rfl rfl rfl ?_; clear hE a; intro a hE
              refine l_skip hE rfl rfl rfl ?_; clear hE a; intro a hE
              refine l_skip hE rfl rfl rfl ?_; clear hE a; intro a hE
              refine l_skip hE rfl rfl rfl ?_; clear hE a; intro a hE
              refine l_skip hE rfl rfl rfl ?_; clear hE a; intro a hE
              refine l_skip hE rfl rfl rfl ?_; clear hE a; intro a hE
              refine l_skip hE rfl rfl rfl ?_; clear hE a; intro a hE
              refine l_skip hE rfl rfl rfl ?_; clear hE a; intro a hE
              refine l_skip hE rfl rfl rfl ?_; clear hE a; intro a hE
              refine l_go hE rfl (o_pure hE rfl rfl (p_pick (b := true) rfl rfl).run ?_); clear hE a; intro a hE
              refine l_step rfl (o_pure hE rfl rfl (p_pick (b := true) rfl rfl).run ?_); clear hE a; intro a hE
              refine l_step rfl (o_pure hE rfl rfl (p_assign rfl).run ?_); clear hE a; intro a hE
              refine wpList_nil ?_
              refine then_normal ?_
              refine wp_ret ?_
              refine ret1 rfl hE rfl ?_
              exact ⟨rfl, _, (((((((((hD6.trans hD12).trans hD1).trans hD36).trans hD41).trans hD100).trans hD110).trans hD120).trans hD129).trans hD140), hI.drop.drop.drop.drop⟩
            · skip
              exfalso
              rw [hlaid] at hla132; cases hla132
  · replace hbf8 := iff_f hbf8
    refine l_step rfl (o_pure hE rfl rfl (p_not rfl).run ?_); clear hE a; intro a hE
    refine l_step rfl (o_pure hE rfl rfl (p_move rfl).run ?_); clear hE a; intro a hE
    refine l_skip hE rfl rfl rfl ?_; clear hE a; intro a hE
    refine l_skip hE rfl rfl rfl ?_; clear hE a; intro a hE
    refine l_skip hE rfl rfl rfl ?_; clear hE a; intro a hE
    refine l_step rfl (o_pure hE rfl rfl (p_pick (b := true) rfl rfl).run ?_); clear hE a; intro a hE
    refine l_step rfl (o_pure hE rfl rfl (p_move rfl).run ?_); clear hE a; intro a hE
    refine l_skip hE rfl rfl rfl ?_; clear hE a; intro a hE
    refine l_skip hE rfl rfl rfl ?_; clear hE a; intro a hE
    refine l_skip hE rfl rfl rfl ?_; clear hE a; intro a hE
    refine l_step rfl (o_pure hE rfl rfl (p_pick (b := true) rfl rfl).run ?_); clear hE a; intro a hE
    refine l_step rfl (o_pure hE rfl rfl (p_move rfl).run ?_); clear hE a; intro a hE
    refine l_skip hE rfl rfl rfl ?_; clear hE a; intro a hE
    refine l_skip hE rfl rfl rfl ?_; clear hE a; intro a hE
    refine l_step rfl (o_pure hE rfl rfl (p_pick (b := true) rfl rfl).run ?_); clear hE a; intro a hE
    refine wpList_nil ?_
    refine then_normal ?_
    refine c_true hE rfl ?_
    refine wp_seq ?_
    refine wp_region_list ?_   -- region 5
    refine l_step rfl (o_pure hE rfl rfl (p_move rfl).run ?_); clear hE a; intro a hE
    refine l_step rfl (o_pure hE rfl rfl (p_assign rfl).run ?_); clear hE a; intro a hE
    refine wpList_nil ?_
    refine then_normal ?_
    refine wp_ret ?_
    refine then_ret ?_
    refine ret1 rfl hE rfl ?_
    exact ⟨rfl, _, hD6, hI⟩
end Go.Proofs.YtbogbnkckofpdaaDoor.B
