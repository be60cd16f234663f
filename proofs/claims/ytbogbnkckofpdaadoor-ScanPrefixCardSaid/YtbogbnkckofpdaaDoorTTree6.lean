/- What functions of the program compute, each function once: steps over the model, and the plain law of it. -/
import Derived.Test.YtbogbnkckofpdaaDoorTTree5
namespace Go.Proofs.YtbogbnkckofpdaaDoor.B
open Go Go.Proofs
set_option linter.unusedVariables false
set_option linter.unusedSimpArgs false
set_option maxRecDepth 20000
set_option maxHeartbeats 8000000
namespace FTTree6
theorem agg_69 : aggSize Tryd.prog 69 = some 2 := by kernel_rfl
theorem agg_83 : aggSize Tryd.prog 83 = some 5 := by kernel_rfl
theorem built_69 : ∀ vs, Tryd.prog.built 69 vs = Instr.fill (([(0, 1), (1, 1)] : List (Nat × Nat)).toArray[·]?) ([.slice none 0 0, .slice none 0 0] : List Value).toArray vs := fun _ => by kernel_rfl
theorem ent_70 : enters Tryd.prog 70 = true := by kernel_rfl
theorem ent_71 : enters Tryd.prog 71 = true := by kernel_rfl
theorem ent_73 : enters Tryd.prog 73 = true := by kernel_rfl
theorem ent_88 : enters Tryd.prog 88 = true := by kernel_rfl
theorem ent_97 : enters Tryd.prog 97 = true := by kernel_rfl
theorem fo_69_0 : fieldOff Tryd.prog 69 0 = some 0 := by kernel_rfl
theorem fo_69_1 : fieldOff Tryd.prog 69 1 = some 1 := by kernel_rfl
theorem fo_83_3 : fieldOff Tryd.prog 83 3 = some 3 := by kernel_rfl
theorem fo_83_4 : fieldOff Tryd.prog 83 4 = some 4 := by kernel_rfl
theorem scal_22 : isScal Tryd.prog 22 = true := by kernel_rfl
theorem scal_25 : isScal Tryd.prog 25 = true := by kernel_rfl
theorem scal_3 : isScal Tryd.prog 3 = true := by kernel_rfl
theorem scal_65 : isScal Tryd.prog 65 = true := by kernel_rfl
theorem sz_69 : (Tryd.prog.info? 69).map (·.size) = some 2 := by kernel_rfl
theorem sz_83 : (Tryd.prog.info? 83).map (·.size) = some 5 := by kernel_rfl
theorem zer_69 : (Tryd.prog.info? 69).bind (·.zero) = some (.agg #[.slice none 0 0, .slice none 0 0]) := by kernel_rfl
theorem zer_83 : (Tryd.prog.info? 83).bind (·.zero) = some (.agg #[.int .i64 0, .int .i64 0, .int .i64 0, .int .i64 0, .slice none 0 0]) := by kernel_rfl
end FTTree6
open FTTree6
theorem from_spec {w0 w : World} {D : Sto} {ss : List Seg} {s : Seg} {vb vp : Value} {b : Bt} {P : Pl} (hI : Inv w0 D (s :: ss) w) {ad : Nat → Addr} (hS : TSents D ad) (hT : TreeS D vb vp b P s) {vk : Value} {key : Bs} (hk : RB D vk key) (above : Bool) :
    Calls Tryd.prog 97 #[vb, vk, .bool above] w (Ret fun r w' => (∃ res, b.from_ key above = .ok res ∧ ∃ D' k v, Le D D' ∧ r = .tuple #[.agg #[k, v], .bool res.isSome, .nilIface] ∧ RB D' k (res.getD ([], [])).1 ∧ RB D' v (res.getD ([], [])).2 ∧ TreeS D' vb vp b P s ∧ Inv w0 D' (s :: ss) w') ∨ (∃ c o, b.from_ key above = .fail c o ∧ r = .tuple #[.agg #[.slice none 0 0, .slice none 0 0], .bool false, errV ad c] ∧ ∃ D' s', Le D D' ∧ TreeS D' vb vp b (P.after o) s' ∧ Inv w0 D' (s' :: ss) w')) := by
  obtain ⟨A1, c2, rfl, _⟩ := hk.slice
  have hab : above = true ↔ above = true := Iff.rfl
  refine enter (N := 85) Tryd.func97 rfl rfl rfl ?_
  intro a hE
  refine wsr ?_
  refine l_step rfl (f_alloc (cs := #[.slice none 0 0, .slice none 0 0]) hE hI rfl rfl rfl zer_69 rfl ?_)
  clear hI hE a w; intro a b3 w hE hI
  refine qa hE rfl rfl rfl rfl rfl ?_; clear hE a; intro a hE
  refine qa hE rfl rfl rfl rfl rfl ?_; clear hE a; intro a hE
  refine wnt ?_
  refine c_scope ?_
  refine wp_seq ?_
  refine wsr ?_
  refine qm hE rfl rfl rfl rfl rfl ?_; clear hE a; intro a hE
  refine qs hE rfl rfl rfl (p_len rfl rfl Tryd.underlying22) ?_; clear hE a; intro a hE
  refine l_step rfl (o_cmp hE rfl rfl rfl rfl rfl rfl ?_ ?_)
  · intro hkl; replace hkl := gtr_t hkl; clear hE a; intro a hE
    refine wnt ?_
    refine c_true hE rfl ?_
    refine wp_seq ?_
    refine d_start [] [] (by kernel_rfl) hI rfl rfl ?_
    clear hI w; intro w hI
    refine d_pure 0 hE rfl (by kernel_rfl) (by kernel_rfl) (by kernel_rfl) rfl (fun _ _ _ h => h) rfl rfl rfl (f_build (vs := []) (l := [_, _]) rfl built_69 rfl) (fun _ => hI) (listed' := #[true, false, false, false, false]) rfl ?_; clear hE a; intro a hE
    obtain ⟨T_4, fr_4, hg_4⟩ := hS.g105
    refine d_load 1 hE rfl (by kernel_rfl) (by kernel_rfl) (by kernel_rfl) (by kernel_rfl) (by kernel_rfl) rfl rfl (fun _ _ _ h => h) rfl rfl rfl (fun w hS => f_load rfl scal_25 (Inv.data hS _ _ (hg_4)) rfl) (hI) (listed' := #[true, true, false, false, false]) rfl ?_; clear hE a; intro a hE
    refine d_one 2 hE rfl (by kernel_rfl) rfl (listed' := #[true, true, true, false, false]) rfl ?_
    refine f_store (l := [_, _]) (ss' := _ :: _) 0 hE hI rfl rfl rfl rfl rfl sz_69 (by simp [Value.cells, Value.oneCell', pgCells, rcCells, zPg]) rfl rfl rfl ?_
    clear hI w; intro w hI
    refine ⟨fun _ => hI, ?_⟩
    refine d_pure 3 hE rfl (by kernel_rfl) (by kernel_rfl) (by kernel_rfl) rfl (fun _ _ _ h => h) rfl rfl rfl (p_assign rfl) (fun _ => hI) (listed' := #[true, true, true, true, false]) rfl ?_; clear hE a; intro a hE
    refine d_pure 4 hE rfl (by kernel_rfl) (by kernel_rfl) (by kernel_rfl) rfl (fun _ _ _ h => h) rfl rfl rfl (p_assign rfl) (fun _ => hI) (listed' := #[true, true, true, true, true]) rfl ?_; clear hE a; intro a hE
    refine d_done (by kernel_rfl) ?_
    refine then_normal ?_
    refine wp_ret ?_
    refine then_ret ?_
    refine sc_ret ?_
    refine retc3 rfl hE rfl agg_69 (hI.seg 0 rfl) rfl rfl rfl ?_
    replace hI := hI.erase 0
    exact .inr ⟨105, none, by simp only [Bt.from_, eq_true (show 32 < key.length by omega), ite_true, if_true], rfl, _, _, (Le.refl _), hT, hI⟩
  intro hkl; replace hkl := gtr_f hkl; clear hE a; intro a hE
  refine wnt ?_
  refine c_false hE rfl ?_
  refine wp_skip ?_
  refine then_normal ?_
  refine wsr ?_
  refine qm hE rfl rfl rfl rfl rfl ?_; clear hE a; intro a hE
  refine qm hE rfl rfl rfl rfl rfl ?_; clear hE a; intro a hE
  refine l_step rfl (o_call hE rfl rfl rfl rfl ent_70 (down_spec (hI.bring 1) hS hT hk) ?_)
  clear hI hE a
  rintro r w h a hE; rcases h with ⟨l5, ks6, hx7, hne8, hll9, D10, vl11, vk12, hD13, rfl, hdl14, hdk15, hT16, hI⟩ | ⟨c17, o18, hx7, rfl, D19, s20, hD21, hT22, hI⟩
  · skip
    replace hI := hI.put_back 1
    try simp only [splice, insAt, List.set_cons_succ, List.set_cons_zero, List.setIfInBounds_toArray, Value.cells, List.eraseIdx_cons_succ, List.eraseIdx_cons_zero, List.eraseIdx_zero, List.tail_cons] at hI
    have hl1 : 1 ≤ l5.length := List.length_pos_iff.2 hne8
    have hl17 := down_len hx7
    obtain ⟨A23, c24, rfl, _⟩ := hdl14.slice
    obtain ⟨A25, c26, rfl, _⟩ := hdk15.slice
    refine qm hE rfl rfl rfl rfl rfl ?_; clear hE a; intro a hE
    refine qs hE rfl rfl rfl (f_extract rfl rfl) ?_; clear hE a; intro a hE
    refine qs hE rfl rfl rfl (f_extract rfl rfl) ?_; clear hE a; intro a hE
    refine qs hE rfl rfl rfl (f_extract rfl rfl) ?_; clear hE a; intro a hE
    refine qa hE rfl rfl rfl rfl rfl ?_; clear hE a; intro a hE
    refine qa hE rfl rfl rfl rfl rfl ?_; clear hE a; intro a hE
    refine qa hE rfl rfl rfl rfl rfl ?_; clear hE a; intro a hE
    refine wnt ?_
    refine wp_seq ?_
    refine wsr ?_
    refine qm hE rfl rfl rfl rfl rfl ?_; clear hE a; intro a hE
    refine qs hE rfl rfl rfl (p_ifaceNil Tryd.underlying25 rfl rfl rfl) ?_; clear hE a; intro a hE
    refine wnt ?_
    refine c_false hE rfl ?_
    refine wp_skip ?_
    refine then_normal ?_
    refine wsr ?_
    refine qm hE rfl rfl rfl rfl rfl ?_; clear hE a; intro a hE
    refine qm hE rfl rfl rfl rfl rfl ?_; clear hE a; intro a hE
    refine qs hE rfl rfl rfl (p_len rfl rfl Tryd.underlying121) ?_; clear hE a; intro a hE
    refine qs hE rfl rfl rfl (p_arith (z := ((l5.length - 1 : Nat) : Int)) rfl rfl (sub_z (by omega) (by omega) (by omega))) ?_; clear hE a; intro a hE
    obtain ⟨x_27, hx_27⟩ : ∃ y, (l5)[(l5.length - 1)]? = some y := ⟨_, List.getElem?_eq_getElem (by omega)⟩
    obtain ⟨b_27, o_27, cs_27, T_27, fr_27, rfl, hb_27, hat_27⟩ := hdl14.at_ (by intro h0; rw [h0] at hx_27; simp at hx_27)
    obtain ⟨vs_27, hl_27, ⟨e_27, rfl, he_27, hok_27⟩, hex_27, hsz_27, hce_27⟩ := hat_27.extract hx_27 (by omega)
    obtain ⟨A28, c29, rfl, _⟩ := he_27.slice
    refine qs hE rfl rfl rfl (p_indexAddr (m := o_27 + (l5.length - 1) * 5) rfl rfl Tryd.underlying121 sz_83 (by omega) (by omega) (by simp)) ?_; clear hE a; intro a hE
    refine ql hE rfl rfl rfl (r_loadA rfl agg_83 (hI.data _ _ (hb_27)) hsz_27 hex_27) ?_; clear hE a; intro a hE
    refine l_step rfl (f_alloc (cs := #[.int .i64 0, .int .i64 0, .int .i64 0, .int .i64 0, .slice none 0 0]) hE hI rfl rfl rfl zer_83 rfl ?_)
    clear hI hE a w; intro a b30 w hE hI
    refine l_step rfl (f_store (l := [_, _, _, _, _]) (ss' := _ :: _) 0 hE hI rfl rfl rfl rfl rfl sz_83 (by simp [Value.cells, Value.oneCell', pgCells, rcCells, zPg]) rfl rfl rfl ?_)
    clear hI w; intro w hI
    refine wnt ?_
    refine wp_seq ?_
    refine wp_label ?_
    refine then_normal ?_
    refine wp_seq ?_
    refine wsr ?_
    refine qm hE rfl rfl rfl rfl rfl ?_; clear hE a; intro a hE
    refine wnt ?_
    refine wp_block ?_
    have hlast : lastPg l5 = x_27 := lastPg_eq hx_27
    replace hI := hI.bring 1
    replace hI := hI.bring 1
    replace hI := hI.bring 2
    have heq0 : b.from_ key above = b.fromF key above 256 x_27 := by simp only [Bt.from_, eq_false (show ¬ (32 < key.length) by omega), hx7, hlast, ite_false, if_false]
    refine c_loop (X := Sto × Nat × Pg × Value) (fun x => [(0, _), (1, _), (2, _), (6, _), (12, _), (38, .int .i64 (x.2.1 : Nat))]) (fun x w => x.2.1 ≤ 256 ∧ Le D x.1 ∧ b.from_ key above = b.fromF key above (256 - x.2.1) x.2.2.1 ∧ EnD x.1 x.2.2.2 x.2.2.1.ents ∧ POk x.2.2.1 ∧ TreeS x.1 vb vp b P s ∧ Inv w0 x.1 (s :: [(b30, .cells (pgCells x.2.2.1 x.2.2.2).toArray 83 (0, 0))] :: [(b3, .cells #[.slice none 0 0, .slice none 0 0] 69 (0, 0))] :: ss) w) (fun x => 256 - x.2.1) (D10, 0, x_27, _) (hE.pick [0, 1, 2, 6, 12, 38]) ⟨Nat.zero_le _, hD13, heq0, he_27, hok_27, hT16, hI⟩ ?_
    clear hE hI a w
    rintro ⟨D1, i, x1, e1⟩ a w hE ⟨hi, hD1, heq, he1, ho1, hT1, hI⟩
    try dsimp only at hE
    try dsimp only at hi
    try dsimp only at hD1
    try dsimp only at heq
    try dsimp only at he1
    try dsimp only at ho1
    try dsimp only at hT1
    try dsimp only at hI
    have hlen_x1 := ho1.len
    obtain ⟨A31, c32, rfl, _⟩ := he1.slice
    refine wsr ?_
    refine l_step rfl (o_cmp hE rfl rfl rfl rfl rfl rfl ?_ ?_)
    · intro hlt; replace hlt := lss_t hlt; clear hE a; intro a hE
      refine wnt ?_
      refine wp_seq ?_
      refine c_true hE rfl ?_
      refine wp_skip ?_
      refine then_normal ?_
      refine wp_seq ?_
      refine wp_block ?_
      refine wsr ?_
      refine ql hE rfl rfl rfl (f_loadA (vs := [_, _, _, _, _]) rfl agg_83 (hI.seg 1 rfl) rfl rfl) ?_; clear hE a; intro a hE
      refine qm hE rfl rfl rfl rfl rfl ?_; clear hE a; intro a hE
      refine l_step rfl (o_call hE rfl rfl rfl rfl ent_71 (Find_spec (p := x1) hI ⟨_, rfl, he1, ho1⟩ (hk.mono hD1)) ?_)
      clear hI hE a
      rintro r w ⟨rfl, hI⟩ a hE
      have hfl35 := findP_le x1.ents key
      obtain ⟨bf33, hbf34⟩ : ∃ b, (findP x1.ents key).2 = b := ⟨_, rfl⟩
      rw [hbf34] at hE
      replace hbf34 : bf33 = true ↔ (findP x1.ents key).2 = true := by rw [← hbf34]
      refine qm hE rfl rfl rfl rfl rfl ?_; clear hE a; intro a hE
      refine qs hE rfl rfl rfl (f_extract rfl rfl) ?_; clear hE a; intro a hE
      refine qs hE rfl rfl rfl (f_extract rfl rfl) ?_; clear hE a; intro a hE
      refine qa hE rfl rfl rfl rfl rfl ?_; clear hE a; intro a hE
      refine qa hE rfl rfl rfl rfl rfl ?_; clear hE a; intro a hE
      refine wnt ?_
      refine wp_seq ?_
      refine wsr ?_
      refine qm hE rfl rfl rfl rfl rfl ?_; clear hE a; intro a hE
      refine qm hE rfl rfl rfl rfl rfl ?_; clear hE a; intro a hE
      rcases Bool.eq_false_or_eq_true bf33 with rfl | rfl
      · replace hbf34 := iff_t hbf34
        have hfd_hfl35 : (findP x1.ents key).2 = true := hbf34
        have hlt_hfl35 := findP_lt hfd_hfl35
        refine l_go hE rfl (o_pure hE rfl rfl (p_move rfl).run ?_); clear hE a; intro a hE
        refine qs hE rfl rfl rfl (p_pick (b := true) rfl rfl) ?_; clear hE a; intro a hE
        refine wnt ?_
        rcases Bool.eq_false_or_eq_true above with rfl | rfl
        · replace hab := iff_t hab
          refine c_true hE rfl ?_
          refine wp_region_list ?_
          refine qm hE rfl rfl rfl rfl rfl ?_; clear hE a; intro a hE
          refine qs hE rfl rfl rfl (p_arith (z := (((findP x1.ents key).1 + 1 : Nat) : Int)) rfl rfl (add_z (by omega) (by omega) (by omega))) ?_; clear hE a; intro a hE
          refine qa hE rfl rfl rfl rfl rfl ?_; clear hE a; intro a hE
          refine wnt ?_
          refine wp_seq ?_
          refine wsr ?_
          refine qm hE rfl rfl rfl rfl rfl ?_; clear hE a; intro a hE
          refine qs hE rfl rfl rfl (p_fieldAddr (m := 4) rfl fo_83_4 rfl) ?_; clear hE a; intro a hE
          refine ql hE rfl rfl rfl (f_load rfl scal_65 (hI.seg 1 rfl) rfl) ?_; clear hE a; intro a hE
          refine qs hE rfl rfl rfl (p_len rfl rfl Tryd.underlying65) ?_; clear hE a; intro a hE
          refine l_step rfl (o_cmp hE rfl rfl rfl rfl rfl rfl ?_ ?_)
          · intro hkk; replace hkk := lss_t hkk; clear hE a; intro a hE
            refine wnt ?_
            refine c_true hE rfl ?_
            refine wsr ?_
            refine qs hE rfl rfl rfl (p_fieldAddr (m := 4) rfl fo_83_4 rfl) ?_; clear hE a; intro a hE
            refine ql hE rfl rfl rfl (f_load rfl scal_65 (hI.seg 1 rfl) rfl) ?_; clear hE a; intro a hE
            refine qm hE rfl rfl rfl rfl rfl ?_; clear hE a; intro a hE
            obtain ⟨x_36, hx_36⟩ : ∃ y, (x1.ents)[((findP x1.ents key).1 + 1)]? = some y := ⟨_, List.getElem?_eq_getElem (by omega)⟩
            obtain ⟨b_36, o_36, cs_36, T_36, fr_36, rfl, hb_36, hat_36⟩ := he1.at_ (by intro h0; rw [h0] at hx_36; simp at hx_36)
            obtain ⟨vs_36, hl_36, ⟨k_36, v_36, rfl, hk_36, hv_36, hok_36⟩, hex_36, hsz_36, hce_36⟩ := hat_36.extract hx_36 (by omega)
            obtain ⟨A37, c38, rfl, _⟩ := hk_36.slice
            obtain ⟨A39, c40, rfl, _⟩ := hv_36.slice
            refine qs hE rfl rfl rfl (p_indexAddr (m := o_36 + ((findP x1.ents key).1 + 1) * 2) rfl rfl Tryd.underlying65 sz_69 (by omega) (by omega) (by simp)) ?_; clear hE a; intro a hE
            refine ql hE rfl rfl rfl (r_loadA rfl agg_69 (hI.data _ _ (hb_36)) hsz_36 hex_36) ?_; clear hE a; intro a hE
            refine l_step rfl (f_alloc (cs := #[.slice none 0 0, .slice none 0 0]) hE hI rfl rfl rfl zer_69 rfl ?_)
            clear hI hE a w; intro a b41 w hE hI
            refine l_step rfl (f_store (l := [_, _]) (ss' := _ :: _) 0 hE hI rfl rfl rfl rfl rfl sz_69 (by simp [Value.cells, Value.oneCell', pgCells, rcCells, zPg]) rfl rfl rfl ?_)
            clear hI w; intro w hI
            refine wnt ?_
            refine wp_seq ?_
            refine d_start [7] [] (by kernel_rfl) hI rfl rfl ?_
            clear hI w; intro w hI
            refine d_pure 0 hE rfl (by kernel_rfl) (by kernel_rfl) (by kernel_rfl) rfl (fun _ _ _ h => h) rfl rfl rfl (p_fieldAddr (m := 0) rfl fo_69_0 rfl) (fun _ => hI) (listed' := #[true, false, false, false, false, false, false, false, false, false]) rfl ?_; clear hE a; intro a hE
            refine d_load 1 hE rfl (by kernel_rfl) (by kernel_rfl) (by kernel_rfl) (by kernel_rfl) (by kernel_rfl) rfl rfl (fun _ _ _ h => h) rfl rfl rfl (fun w hS => f_load rfl scal_22 (Inv.seg 0 hS rfl) rfl) (hI) (listed' := #[true, true, false, false, false, false, false, false, false, false]) rfl ?_; clear hE a; intro a hE
            refine d_pure 3 hE rfl (by kernel_rfl) (by kernel_rfl) (by kernel_rfl) rfl (fun _ _ _ h => h) rfl rfl rfl (p_fieldAddr (m := 1) rfl fo_69_1 rfl) (fun _ => hI) (listed' := #[true, true, false, true, false, false, false, false, false, false]) rfl ?_; clear hE a; intro a hE
            refine d_load 4 hE rfl (by kernel_rfl) (by kernel_rfl) (by kernel_rfl) (by kernel_rfl) (by kernel_rfl) rfl rfl (fun _ _ _ h => h) rfl rfl rfl (fun w hS => f_load rfl scal_22 (Inv.seg 0 hS rfl) rfl) (hI) (listed' := #[true, true, false, true, true, false, false, false, false, false]) rfl ?_; clear hE a; intro a hE
            refine d_one 2 hE rfl (by kernel_rfl) rfl (listed' := #[true, true, true, true, true, false, false, false, false, false]) rfl ?_
            refine o_call hE rfl rfl rfl rfl ent_73 (Clone_data (bs := x_36.1) hI hk_36 (by have := hok_36.1; have := hok_36.2; omega)) ?_
            clear hI hE a
            rintro r w ⟨D42, hD43, hI, hb44⟩ a hE
            obtain ⟨A45, c46, rfl, _⟩ := hb44.slice
            refine ⟨fun _ => (Inv.weaken hI hD43), ?_⟩
            refine d_one 5 hE rfl (by kernel_rfl) rfl (listed' := #[true, true, true, true, true, true, false, false, false, false]) rfl ?_
            refine o_call hE rfl rfl rfl rfl ent_73 (Clone_data (bs := x_36.2) hI (hv_36.mono hD43) (by have := hok_36.1; have := hok_36.2; omega)) ?_
            clear hI hE a
            rintro r w ⟨D47, hD48, hI, hb49⟩ a hE
            obtain ⟨A50, c51, rfl, _⟩ := hb49.slice
            refine ⟨fun _ => (Inv.weaken hI (hD43.trans hD48)), ?_⟩
            refine d_pure 6 hE rfl (by kernel_rfl) (by kernel_rfl) (by kernel_rfl) rfl (fun _ _ _ h => h) rfl rfl rfl (f_build (vs := [(0, _), (1, _)]) (l := [_, _]) rfl built_69 rfl) (fun _ => (Inv.weaken hI (hD43.trans hD48))) (listed' := #[true, true, true, true, true, true, true, false, false, false]) rfl ?_; clear hE a; intro a hE
            refine d_one 7 hE rfl (by kernel_rfl) rfl (listed' := #[true, true, true, true, true, true, true, true, false, false]) rfl ?_
            refine f_store (l := [_, _]) (ss' := _ :: _ :: _ :: _ :: _) 3 hE hI rfl rfl rfl rfl rfl sz_69 (by simp [Value.cells, Value.oneCell', pgCells, rcCells, zPg]) rfl rfl rfl ?_
            clear hI w; intro w hI
            refine ⟨(fun h => Bool.noConfusion (show false = true from h)), ?_⟩
            refine d_pure 8 hE rfl (by kernel_rfl) (by kernel_rfl) (by kernel_rfl) rfl (fun _ _ _ h => h) rfl rfl rfl (p_assign rfl) ((fun h => Bool.noConfusion (show false = true from h))) (listed' := #[true, true, true, true, true, true, true, true, true, false]) rfl ?_; clear hE a; intro a hE
            refine d_pure 9 hE rfl (by kernel_rfl) (by kernel_rfl) (by kernel_rfl) rfl (fun _ _ _ h => h) rfl rfl rfl (p_assign rfl) ((fun h => Bool.noConfusion (show false = true from h))) (listed' := #[true, true, true, true, true, true, true, true, true, true]) rfl ?_; clear hE a; intro a hE
            refine d_done (by kernel_rfl) ?_
            refine then_normal ?_
            refine wp_ret ?_
            refine then_ret ?_
            refine blk_ret ?_
            refine then_ret ?_
            refine then_ret ?_
            refine blk_ret ?_
            refine then_ret ?_
            refine sc_ret ?_
            refine retc3 rfl hE rfl agg_69 (hI.seg 3 rfl) rfl rfl rfl ?_
            have hgd : x1.ents.getD ((findP x1.ents key).1 + 1) ([], []) = x_36 := by rw [List.getD_eq_getElem?_getD, hx_36]; rfl
            replace hI := hI.erase 3
            replace hI := hI.erase 2
            replace hI := hI.erase 0
            exact .inl ⟨some x_36, heq.trans (by rw [show 256 - i = (256 - (i + 1)) + 1 by omega]; simp only [Bt.fromF, hfd_hfl35, eq_true (show ((findP x1.ents key).1 + 1) < x1.ents.length by omega), hgd, Bool.and_true, Bool.and_false, Bool.true_and, Bool.false_and, Bool.and_self, Bool.false_eq_true, eq_self, reduceCtorEq, if_true, if_false, ite_true, ite_false]), _, _, _, ((hD1.trans hD43).trans hD48), rfl, (hb44.mono hD48), hb49, (hT1.mono (hD43.trans hD48)), hI⟩
          intro hkk; replace hkk := lss_f hkk; clear hE a; intro a hE
          refine wnt ?_
          refine c_false hE rfl ?_
          refine wp_skip ?_
          refine then_normal ?_
          refine wp_seq ?_
          refine wsr ?_
          refine qs hE rfl rfl rfl (p_fieldAddr (m := 3) rfl fo_83_3 rfl) ?_; clear hE a; intro a hE
          refine ql hE rfl rfl rfl (f_load rfl scal_3 (hI.seg 1 rfl) rfl) ?_; clear hE a; intro a hE
          refine l_step rfl (o_cmp hE rfl rfl rfl rfl rfl rfl ?_ ?_)
          · intro hnx; replace hnx := eql_t hnx; clear hE a; intro a hE
            refine wnt ?_
            refine c_true hE rfl ?_
            refine wp_exit ?_
            refine then_exit ?_
            refine blk_other rfl ?_
            refine then_exit ?_
            refine then_exit ?_
            refine blk_same ?_
            refine then_normal ?_
            refine wsr ?_
            refine qs hE rfl rfl rfl (f_build (vs := []) (l := [_, _]) rfl built_69 rfl) ?_; clear hE a; intro a hE
            refine l_step rfl (f_store (l := [_, _]) (ss' := _ :: _ :: _ :: _) 2 hE hI rfl rfl rfl rfl rfl sz_69 (by simp [Value.cells, Value.oneCell', pgCells, rcCells, zPg]) rfl rfl rfl ?_)
            clear hI w; intro w hI
            refine qa hE rfl rfl rfl rfl rfl ?_; clear hE a; intro a hE
            refine qa hE rfl rfl rfl rfl rfl ?_; clear hE a; intro a hE
            refine wnt ?_
            refine wp_ret ?_
            refine sc_ret ?_
            refine retc3 rfl hE rfl agg_69 (hI.seg 2 rfl) rfl rfl rfl ?_
            replace hI := hI.erase 2
            replace hI := hI.erase 1
            exact .inl ⟨none, heq.trans (by rw [show 256 - i = (256 - (i + 1)) + 1 by omega]; simp only [Bt.fromF, hfd_hfl35, eq_false (show ¬ (((findP x1.ents key).1 + 1) < x1.ents.length) by omega), eq_true (show x1.next = -1 by omega), Bool.and_true, Bool.and_false, Bool.true_and, Bool.false_and, Bool.and_self, Bool.false_eq_true, eq_self, reduceCtorEq, if_true, if_false, ite_true, ite_false]), _, _, _, hD1, rfl, RB.nil _, RB.nil _, hT1, hI⟩
          intro hnx; replace hnx := eql_f hnx; clear hE a; intro a hE
          refine wnt ?_
          refine c_false hE rfl ?_
          refine wp_skip ?_
          refine then_normal ?_
          refine wsr ?_
          refine qm hE rfl rfl rfl rfl rfl ?_; clear hE a; intro a hE
          refine qs hE rfl rfl rfl (p_fieldAddr (m := 3) rfl fo_83_3 rfl) ?_; clear hE a; intro a hE
          refine ql hE rfl rfl rfl (f_load rfl scal_3 (hI.seg 1 rfl) rfl) ?_; clear hE a; intro a hE
          refine l_step rfl (o_call hE rfl rfl rfl rfl ent_88 (page_spec hI (hS.mono hD1) hT1 (x1.next)) ?_)
          clear hI hE a
          rintro r w h a hE; rcases h with ⟨x52, hx53, D54, e55, hD56, rfl, he57, ho58, hT59, hI⟩ | ⟨c60, o61, hx53, rfl, s62, hT59, hI⟩
          · skip
            have hlen_x52 := ho58.len
            obtain ⟨A63, c64, rfl, _⟩ := he57.slice
            refine qm hE rfl rfl rfl rfl rfl ?_; clear hE a; intro a hE
            refine qs hE rfl rfl rfl (f_extract rfl rfl) ?_; clear hE a; intro a hE
            refine qs hE rfl rfl rfl (f_extract rfl rfl) ?_; clear hE a; intro a hE
            refine l_step rfl (f_store (l := [_, _, _, _, _]) (ss' := _ :: _ :: _) 1 hE hI rfl rfl rfl rfl rfl sz_83 (by simp [Value.cells, Value.oneCell', pgCells, rcCells, zPg]) rfl rfl rfl ?_)
            clear hI w; intro w hI
            refine qa hE rfl rfl rfl rfl rfl ?_; clear hE a; intro a hE
            refine wnt ?_
            refine wsr ?_
            refine qm hE rfl rfl rfl rfl rfl ?_; clear hE a; intro a hE
            refine qs hE rfl rfl rfl (p_ifaceNil Tryd.underlying25 rfl rfl rfl) ?_; clear hE a; intro a hE
            refine wnt ?_
            refine c_false hE rfl ?_
            refine wp_skip ?_
            refine blk_normal ?_
            refine then_normal ?_
            refine wp_region_list ?_
            refine qs hE rfl rfl rfl (p_arith (z := ((i + 1 : Nat) : Int)) rfl rfl (add_z (by omega) (by omega) (by omega))) ?_; clear hE a; intro a hE
            refine qm hE rfl rfl rfl rfl rfl ?_; clear hE a; intro a hE
            refine wnt ?_
            replace hI := hI.bring 2
            replace hI := hI.bring 2
            replace hI := hI.bring 2
            exact ⟨(D54, i + 1, x52, _), hE.pick [0, 1, 2, 6, 12, 38], ⟨by show i + 1 ≤ _; omega, (hD1.trans hD56), heq.trans (by rw [show 256 - i = (256 - (i + 1)) + 1 by omega]; simp only [Bt.fromF, hfd_hfl35, hx53, eq_false (show ¬ (((findP x1.ents key).1 + 1) < x1.ents.length) by omega), eq_false (show ¬ (x1.next = -1) by omega), Bool.and_true, Bool.and_false, Bool.true_and, Bool.false_and, Bool.and_self, Bool.false_eq_true, eq_self, reduceCtorEq, if_true, if_false, ite_true, ite_false]), he57, ho58, hT59, hI⟩, by show 256 - (i + 1) < 256 - i; omega⟩
          refine qm hE rfl rfl rfl rfl rfl ?_; clear hE a; intro a hE
          refine qs hE rfl rfl rfl (f_extract rfl rfl) ?_; clear hE a; intro a hE
          refine qs hE rfl rfl rfl (f_extract rfl rfl) ?_; clear hE a; intro a hE
          refine l_step rfl (f_store (l := [_, _, _, _, _]) (ss' := _ :: _ :: _) 1 hE hI rfl rfl rfl rfl rfl sz_83 (by simp [Value.cells, Value.oneCell', pgCells, rcCells, zPg]) rfl rfl rfl ?_)
          clear hI w; intro w hI
          refine qa hE rfl rfl rfl rfl rfl ?_; clear hE a; intro a hE
          refine wnt ?_
          refine wsr ?_
          refine qm hE rfl rfl rfl rfl rfl ?_; clear hE a; intro a hE
          refine qs hE rfl rfl rfl (p_ifaceNil Tryd.underlying25 rfl rfl rfl) ?_; clear hE a; intro a hE
          refine wnt ?_
          refine c_true hE rfl ?_
          refine wsr ?_
          refine qs hE rfl rfl rfl (f_build (vs := []) (l := [_, _]) rfl built_69 rfl) ?_; clear hE a; intro a hE
          refine qm hE rfl rfl rfl rfl rfl ?_; clear hE a; intro a hE
          refine l_step rfl (f_store (l := [_, _]) (ss' := _ :: _ :: _ :: _) 2 hE hI rfl rfl rfl rfl rfl sz_69 (by simp [Value.cells, Value.oneCell', pgCells, rcCells, zPg]) rfl rfl rfl ?_)
          clear hI w; intro w hI
          refine qa hE rfl rfl rfl rfl rfl ?_; clear hE a; intro a hE
          refine qa hE rfl rfl rfl rfl rfl ?_; clear hE a; intro a hE
          refine wnt ?_
          refine wp_ret ?_
          refine blk_ret ?_
          refine then_ret ?_
          refine then_ret ?_
          refine blk_ret ?_
          refine then_ret ?_
          refine sc_ret ?_
          refine retc3 rfl hE rfl agg_69 (hI.seg 2 rfl) rfl rfl rfl ?_
          replace hI := hI.erase 2
          replace hI := hI.erase 1
          exact .inr ⟨_, o61, heq.trans (by rw [show 256 - i = (256 - (i + 1)) + 1 by omega]; simp only [Bt.fromF, hfd_hfl35, hx53, eq_false (show ¬ (((findP x1.ents key).1 + 1) < x1.ents.length) by omega), eq_false (show ¬ (x1.next = -1) by omega), Bool.and_true, Bool.and_false, Bool.true_and, Bool.false_and, Bool.and_self, Bool.false_eq_true, eq_self, reduceCtorEq, if_true, if_false, ite_true, ite_false]), rfl, _, _, hD1, hT59, hI⟩
        replace hab := iff_f hab
        refine c_false hE rfl ?_
        refine wp_skip ?_
        refine then_normal ?_
        refine wp_seq ?_
        refine wsr ?_
        refine qm hE rfl rfl rfl rfl rfl ?_; clear hE a; intro a hE
        refine qs hE rfl rfl rfl (p_fieldAddr (m := 4) rfl fo_83_4 rfl) ?_; clear hE a; intro a hE
        refine ql hE rfl rfl rfl (f_load rfl scal_65 (hI.seg 1 rfl) rfl) ?_; clear hE a; intro a hE
        refine qs hE rfl rfl rfl (p_len rfl rfl Tryd.underlying65) ?_; clear hE a; intro a hE
        refine l_step rfl (o_cmp hE rfl rfl rfl rfl rfl rfl ?_ ?_)
        · intro hkk; replace hkk := lss_t hkk; clear hE a; intro a hE
          refine wnt ?_
          refine c_true hE rfl ?_
          refine wsr ?_
          refine qs hE rfl rfl rfl (p_fieldAddr (m := 4) rfl fo_83_4 rfl) ?_; clear hE a; intro a hE
          refine ql hE rfl rfl rfl (f_load rfl scal_65 (hI.seg 1 rfl) rfl) ?_; clear hE a; intro a hE
          refine qm hE rfl rfl rfl rfl rfl ?_; clear hE a; intro a hE
          obtain ⟨x_65, hx_65⟩ : ∃ y, (x1.ents)[(findP x1.ents key).1]? = some y := ⟨_, List.getElem?_eq_getElem (by omega)⟩
          obtain ⟨b_65, o_65, cs_65, T_65, fr_65, rfl, hb_65, hat_65⟩ := he1.at_ (by intro h0; rw [h0] at hx_65; simp at hx_65)
          obtain ⟨vs_65, hl_65, ⟨k_65, v_65, rfl, hk_65, hv_65, hok_65⟩, hex_65, hsz_65, hce_65⟩ := hat_65.extract hx_65 (by omega)
          obtain ⟨A66, c67, rfl, _⟩ := hk_65.slice
          obtain ⟨A68, c69, rfl, _⟩ := hv_65.slice
          refine qs hE rfl rfl rfl (p_indexAddr (m := o_65 + (findP x1.ents key).1 * 2) rfl rfl Tryd.underlying65 sz_69 (by omega) (by omega) (by simp)) ?_; clear hE a; intro a hE
          refine ql hE rfl rfl rfl (r_loadA rfl agg_69 (hI.data _ _ (hb_65)) hsz_65 hex_65) ?_; clear hE a; intro a hE
          refine l_step rfl (f_alloc (cs := #[.slice none 0 0, .slice none 0 0]) hE hI rfl rfl rfl zer_69 rfl ?_)
          clear hI hE a w; intro a b70 w hE hI
          refine l_step rfl (f_store (l := [_, _]) (ss' := _ :: _) 0 hE hI rfl rfl rfl rfl rfl sz_69 (by simp [Value.cells, Value.oneCell', pgCells, rcCells, zPg]) rfl rfl rfl ?_)
          clear hI w; intro w hI
          refine wnt ?_
          refine wp_seq ?_
          refine d_start [7] [] (by kernel_rfl) hI rfl rfl ?_
          clear hI w; intro w hI
          refine d_pure 0 hE rfl (by kernel_rfl) (by kernel_rfl) (by kernel_rfl) rfl (fun _ _ _ h => h) rfl rfl rfl (p_fieldAddr (m := 0) rfl fo_69_0 rfl) (fun _ => hI) (listed' := #[true, false, false, false, false, false, false, false, false, false]) rfl ?_; clear hE a; intro a hE
          refine d_load 1 hE rfl (by kernel_rfl) (by kernel_rfl) (by kernel_rfl) (by kernel_rfl) (by kernel_rfl) rfl rfl (fun _ _ _ h => h) rfl rfl rfl (fun w hS => f_load rfl scal_22 (Inv.seg 0 hS rfl) rfl) (hI) (listed' := #[true, true, false, false, false, false, false, false, false, false]) rfl ?_; clear hE a; intro a hE
          refine d_pure 3 hE rfl (by kernel_rfl) (by kernel_rfl) (by kernel_rfl) rfl (fun _ _ _ h => h) rfl rfl rfl (p_fieldAddr (m := 1) rfl fo_69_1 rfl) (fun _ => hI) (listed' := #[true, true, false, true, false, false, false, false, false, false]) rfl ?_; clear hE a; intro a hE
          refine d_load 4 hE rfl (by kernel_rfl) (by kernel_rfl) (by kernel_rfl) (by kernel_rfl) (by kernel_rfl) rfl rfl (fun _ _ _ h => h) rfl rfl rfl (fun w hS => f_load rfl scal_22 (Inv.seg 0 hS rfl) rfl) (hI) (listed' := #[true, true, false, true, true, false, false, false, false, false]) rfl ?_; clear hE a; intro a hE
          refine d_one 2 hE rfl (by kernel_rfl) rfl (listed' := #[true, true, true, true, true, false, false, false, false, false]) rfl ?_
          refine o_call hE rfl rfl rfl rfl ent_73 (Clone_data (bs := x_65.1) hI hk_65 (by have := hok_65.1; have := hok_65.2; omega)) ?_
          clear hI hE a
          rintro r w ⟨D71, hD72, hI, hb73⟩ a hE
          obtain ⟨A74, c75, rfl, _⟩ := hb73.slice
          refine ⟨fun _ => (Inv.weaken hI hD72), ?_⟩
          refine d_one 5 hE rfl (by kernel_rfl) rfl (listed' := #[true, true, true, true, true, true, false, false, false, false]) rfl ?_
          refine o_call hE rfl rfl rfl rfl ent_73 (Clone_data (bs := x_65.2) hI (hv_65.mono hD72) (by have := hok_65.1; have := hok_65.2; omega)) ?_
          clear hI hE a
          rintro r w ⟨D76, hD77, hI, hb78⟩ a hE
          obtain ⟨A79, c80, rfl, _⟩ := hb78.slice
          refine ⟨fun _ => (Inv.weaken hI (hD72.trans hD77)), ?_⟩
          refine d_pure 6 hE rfl (by kernel_rfl) (by kernel_rfl) (by kernel_rfl) rfl (fun _ _ _ h => h) rfl rfl rfl (f_build (vs := [(0, _), (1, _)]) (l := [_, _]) rfl built_69 rfl) (fun _ => (Inv.weaken hI (hD72.trans hD77))) (listed' := #[true, true, true, true, true, true, true, false, false, false]) rfl ?_; clear hE a; intro a hE
          refine d_one 7 hE rfl (by kernel_rfl) rfl (listed' := #[true, true, true, true, true, true, true, true, false, false]) rfl ?_
          refine f_store (l := [_, _]) (ss' := _ :: _ :: _ :: _ :: _) 3 hE hI rfl rfl rfl rfl rfl sz_69 (by simp [Value.cells, Value.oneCell', pgCells, rcCells, zPg]) rfl rfl rfl ?_
          clear hI w; intro w hI
          refine ⟨(fun h => Bool.noConfusion (show false = true from h)), ?_⟩
          refine d_pure 8 hE rfl (by kernel_rfl) (by kernel_rfl) (by kernel_rfl) rfl (fun _ _ _ h => h) rfl rfl rfl (p_assign rfl) ((fun h => Bool.noConfusion (show false = true from h))) (listed' := #[true, true, true, true, true, true, true, true, true, false]) rfl ?_; clear hE a; intro a hE
          refine d_pure 9 hE rfl (by kernel_rfl) (by kernel_rfl) (by kernel_rfl) rfl (fun _ _ _ h => h) rfl rfl rfl (p_assign rfl) ((fun h => Bool.noConfusion (show false = true from h))) (listed' := #[true, true, true, true, true, true, true, true, true, true]) rfl ?_; clear hE a; intro a hE
          refine d_done (by kernel_rfl) ?_
          refine then_normal ?_
          refine wp_ret ?_
          refine then_ret ?_
          refine blk_ret ?_
          refine then_ret ?_
          refine then_ret ?_
          refine blk_ret ?_
          refine then_ret ?_
          refine sc_ret ?_
          refine retc3 rfl hE rfl agg_69 (hI.seg 3 rfl) rfl rfl rfl ?_
          have hgd : x1.ents.getD (findP x1.ents key).1 ([], []) = x_65 := by rw [List.getD_eq_getElem?_getD, hx_65]; rfl
          replace hI := hI.erase 3
          replace hI := hI.erase 2
          replace hI := hI.erase 0
          exact .inl ⟨some x_65, heq.trans (by rw [show 256 - i = (256 - (i + 1)) + 1 by omega]; simp only [Bt.fromF, hfd_hfl35, eq_true (show (findP x1.ents key).1 < x1.ents.length by omega), hgd, Bool.and_true, Bool.and_false, Bool.true_and, Bool.false_and, Bool.and_self, Bool.false_eq_true, eq_self, reduceCtorEq, if_true, if_false, ite_true, ite_false]), _, _, _, ((hD1.trans hD72).trans hD77), rfl, (hb73.mono hD77), hb78, (hT1.mono (hD72.trans hD77)), hI⟩
        intro hkk; replace hkk := lss_f hkk; clear hE a; intro a hE
        refine wnt ?_
        refine c_false hE rfl ?_
        refine wp_skip ?_
        refine then_normal ?_
        refine wp_seq ?_
        refine wsr ?_
        refine qs hE rfl rfl rfl (p_fieldAddr (m := 3) rfl fo_83_3 rfl) ?_; clear hE a; intro a hE
        refine ql hE rfl rfl rfl (f_load rfl scal_3 (hI.seg 1 rfl) rfl) ?_; clear hE a; intro a hE
        refine l_step rfl (o_cmp hE rfl rfl rfl rfl rfl rfl ?_ ?_)
        · intro hnx; replace hnx := eql_t hnx; clear hE a; intro a hE
          refine wnt ?_
          refine c_true hE rfl ?_
          refine wp_exit ?_
          refine then_exit ?_
          refine blk_other rfl ?_
          refine then_exit ?_
          refine then_exit ?_
          refine blk_same ?_
          refine then_normal ?_
          refine wsr ?_
          refine qs hE rfl rfl rfl (f_build (vs := []) (l := [_, _]) rfl built_69 rfl) ?_; clear hE a; intro a hE
          refine l_step rfl (f_store (l := [_, _]) (ss' := _ :: _ :: _ :: _) 2 hE hI rfl rfl rfl rfl rfl sz_69 (by simp [Value.cells, Value.oneCell', pgCells, rcCells, zPg]) rfl rfl rfl ?_)
          clear hI w; intro w hI
          refine qa hE rfl rfl rfl rfl rfl ?_; clear hE a; intro a hE
          refine qa hE rfl rfl rfl rfl rfl ?_; clear hE a; intro a hE
          refine wnt ?_
          refine wp_ret ?_
          refine sc_ret ?_
          refine retc3 rfl hE rfl agg_69 (hI.seg 2 rfl) rfl rfl rfl ?_
          replace hI := hI.erase 2
          replace hI := hI.erase 1
          exact .inl ⟨none, heq.trans (by rw [show 256 - i = (256 - (i + 1)) + 1 by omega]; simp only [Bt.fromF, hfd_hfl35, eq_false (show ¬ ((findP x1.ents key).1 < x1.ents.length) by omega), eq_true (show x1.next = -1 by omega), Bool.and_true, Bool.and_false, Bool.true_and, Bool.false_and, Bool.and_self, Bool.false_eq_true, eq_self, reduceCtorEq, if_true, if_false, ite_true, ite_false]), _, _, _, hD1, rfl, RB.nil _, RB.nil _, hT1, hI⟩
        intro hnx; replace hnx := eql_f hnx; clear hE a; intro a hE
        refine wnt ?_
        refine c_false hE rfl ?_
        refine wp_skip ?_
        refine then_normal ?_
        refine wsr ?_
        refine qm hE rfl rfl rfl rfl rfl ?_; clear hE a; intro a hE
        refine qs hE rfl rfl rfl (p_fieldAddr (m := 3) rfl fo_83_3 rfl) ?_; clear hE a; intro a hE
        refine ql hE rfl rfl rfl (f_load rfl scal_3 (hI.seg 1 rfl) rfl) ?_; clear hE a; intro a hE
        refine l_step rfl (o_call hE rfl rfl rfl rfl ent_88 (page_spec hI (hS.mono hD1) hT1 (x1.next)) ?_)
        clear hI hE a
        rintro r w h a hE; rcases h with ⟨x81, hx82, D83, e84, hD85, rfl, he86, ho87, hT88, hI⟩ | ⟨c89, o90, hx82, rfl, s91, hT88, hI⟩
        · skip
          have hlen_x81 := ho87.len
          obtain ⟨A92, c93, rfl, _⟩ := he86.slice
          refine qm hE rfl rfl rfl rfl rfl ?_; clear hE a; intro a hE
          refine qs hE rfl rfl rfl (f_extract rfl rfl) ?_; clear hE a; intro a hE
          refine qs hE rfl rfl rfl (f_extract rfl rfl) ?_; clear hE a; intro a hE
          refine l_step rfl (f_store (l := [_, _, _, _, _]) (ss' := _ :: _ :: _) 1 hE hI rfl rfl rfl rfl rfl sz_83 (by simp [Value.cells, Value.oneCell', pgCells, rcCells, zPg]) rfl rfl rfl ?_)
          clear hI w; intro w hI
          refine qa hE rfl rfl rfl rfl rfl ?_; clear hE a; intro a hE
          refine wnt ?_
          refine wsr ?_
          refine qm hE rfl rfl rfl rfl rfl ?_; clear hE a; intro a hE
          refine qs hE rfl rfl rfl (p_ifaceNil Tryd.underlying25 rfl rfl rfl) ?_; clear hE a; intro a hE
          refine wnt ?_
          refine c_false hE rfl ?_
          refine wp_skip ?_
          refine blk_normal ?_
          refine then_normal ?_
          refine wp_region_list ?_
          refine qs hE rfl rfl rfl (p_arith (z := ((i + 1 : Nat) : Int)) rfl rfl (add_z (by omega) (by omega) (by omega))) ?_; clear hE a; intro a hE
          refine qm hE rfl rfl rfl rfl rfl ?_; clear hE a; intro a hE
          refine wnt ?_
          replace hI := hI.bring 2
          replace hI := hI.bring 2
          replace hI := hI.bring 2
          exact ⟨(D83, i + 1, x81, _), hE.pick [0, 1, 2, 6, 12, 38], ⟨by show i + 1 ≤ _; omega, (hD1.trans hD85), heq.trans (by rw [show 256 - i = (256 - (i + 1)) + 1 by omega]; simp only [Bt.fromF, hfd_hfl35, hx82, eq_false (show ¬ ((findP x1.ents key).1 < x1.ents.length) by omega), eq_false (show ¬ (x1.next = -1) by omega), Bool.and_true, Bool.and_false, Bool.true_and, Bool.false_and, Bool.and_self, Bool.false_eq_true, eq_self, reduceCtorEq, if_true, if_false, ite_true, ite_false]), he86, ho87, hT88, hI⟩, by show 256 - (i + 1) < 256 - i; omega⟩
        refine qm hE rfl rfl rfl rfl rfl ?_; clear hE a; intro a hE
        refine qs hE rfl rfl rfl (f_extract rfl rfl) ?_; clear hE a; intro a hE
        refine qs hE rfl rfl rfl (f_extract rfl rfl) ?_; clear hE a; intro a hE
        refine l_step rfl (f_store (l := [_, _, _, _, _]) (ss' := _ :: _ :: _) 1 hE hI rfl rfl rfl rfl rfl sz_83 (by simp [Value.cells, Value.oneCell', pgCells, rcCells, zPg]) rfl rfl rfl ?_)
        clear hI w; intro w hI
        refine qa hE rfl rfl rfl rfl rfl ?_; clear hE a; intro a hE
        refine wnt ?_
        refine wsr ?_
        refine qm hE rfl rfl rfl rfl rfl ?_; clear hE a; intro a hE
        refine qs hE rfl rfl rfl (p_ifaceNil Tryd.underlying25 rfl rfl rfl) ?_; clear hE a; intro a hE
        refine wnt ?_
        refine c_true hE rfl ?_
        refine wsr ?_
        refine qs hE rfl rfl rfl (f_build (vs := []) (l := [_, _]) rfl built_69 rfl) ?_; clear hE a; intro a hE
        refine qm hE rfl rfl rfl rfl rfl ?_; clear hE a; intro a hE
        refine l_step rfl (f_store (l := [_, _]) (ss' := _ :: _ :: _ :: _) 2 hE hI rfl rfl rfl rfl rfl sz_69 (by simp [Value.cells, Value.oneCell', pgCells, rcCells, zPg]) rfl rfl rfl ?_)
        clear hI w; intro w hI
        refine qa hE rfl rfl rfl rfl rfl ?_; clear hE a; intro a hE
        refine qa hE rfl rfl rfl rfl rfl ?_; clear hE a; intro a hE
        refine wnt ?_
        refine wp_ret ?_
        refine blk_ret ?_
        refine then_ret ?_
        refine then_ret ?_
        refine blk_ret ?_
        refine then_ret ?_
        refine sc_ret ?_
        refine retc3 rfl hE rfl agg_69 (hI.seg 2 rfl) rfl rfl rfl ?_
        replace hI := hI.erase 2
        replace hI := hI.erase 1
        exact .inr ⟨_, o90, heq.trans (by rw [show 256 - i = (256 - (i + 1)) + 1 by omega]; simp only [Bt.fromF, hfd_hfl35, hx82, eq_false (show ¬ ((findP x1.ents key).1 < x1.ents.length) by omega), eq_false (show ¬ (x1.next = -1) by omega), Bool.and_true, Bool.and_false, Bool.true_and, Bool.false_and, Bool.and_self, Bool.false_eq_true, eq_self, reduceCtorEq, if_true, if_false, ite_true, ite_false]), rfl, _, _, hD1, hT88, hI⟩
      replace hbf34 := iff_f hbf34
      have hfd_hfl35 : (findP x1.ents key).2 = false := by simpa using hbf34
      refine l_skip hE rfl rfl rfl ?_; clear hE a; intro a hE
      refine qs hE rfl rfl rfl (p_pick (b := false) rfl rfl) ?_; clear hE a; intro a hE
      refine wnt ?_
      refine c_false hE rfl ?_
      refine wp_skip ?_
      refine then_normal ?_
      refine wp_seq ?_
      refine wsr ?_
      refine qm hE rfl rfl rfl rfl rfl ?_; clear hE a; intro a hE
      refine qs hE rfl rfl rfl (p_fieldAddr (m := 4) rfl fo_83_4 rfl) ?_; clear hE a; intro a hE
      refine ql hE rfl rfl rfl (f_load rfl scal_65 (hI.seg 1 rfl) rfl) ?_; clear hE a; intro a hE
      refine qs hE rfl rfl rfl (p_len rfl rfl Tryd.underlying65) ?_; clear hE a; intro a hE
      refine l_step rfl (o_cmp hE rfl rfl rfl rfl rfl rfl ?_ ?_)
      · intro hkk; replace hkk := lss_t hkk; clear hE a; intro a hE
        refine wnt ?_
        refine c_true hE rfl ?_
        refine wsr ?_
        refine qs hE rfl rfl rfl (p_fieldAddr (m := 4) rfl fo_83_4 rfl) ?_; clear hE a; intro a hE
        refine ql hE rfl rfl rfl (f_load rfl scal_65 (hI.seg 1 rfl) rfl) ?_; clear hE a; intro a hE
        refine qm hE rfl rfl rfl rfl rfl ?_; clear hE a; intro a hE
        obtain ⟨x_94, hx_94⟩ : ∃ y, (x1.ents)[(findP x1.ents key).1]? = some y := ⟨_, List.getElem?_eq_getElem (by omega)⟩
        obtain ⟨b_94, o_94, cs_94, T_94, fr_94, rfl, hb_94, hat_94⟩ := he1.at_ (by intro h0; rw [h0] at hx_94; simp at hx_94)
        obtain ⟨vs_94, hl_94, ⟨k_94, v_94, rfl, hk_94, hv_94, hok_94⟩, hex_94, hsz_94, hce_94⟩ := hat_94.extract hx_94 (by omega)
        obtain ⟨A95, c96, rfl, _⟩ := hk_94.slice
        obtain ⟨A97, c98, rfl, _⟩ := hv_94.slice
        refine qs hE rfl rfl rfl (p_indexAddr (m := o_94 + (findP x1.ents key).1 * 2) rfl rfl Tryd.underlying65 sz_69 (by omega) (by omega) (by simp)) ?_; clear hE a; intro a hE
        refine ql hE rfl rfl rfl (r_loadA rfl agg_69 (hI.data _ _ (hb_94)) hsz_94 hex_94) ?_; clear hE a; intro a hE
        refine l_step rfl (f_alloc (cs := #[.slice none 0 0, .slice none 0 0]) hE hI rfl rfl rfl zer_69 rfl ?_)
        clear hI hE a w; intro a b99 w hE hI
        refine l_step rfl (f_store (l := [_, _]) (ss' := _ :: _) 0 hE hI rfl rfl rfl rfl rfl sz_69 (by simp [Value.cells, Value.oneCell', pgCells, rcCells, zPg]) rfl rfl rfl ?_)
        clear hI w; intro w hI
        refine wnt ?_
        refine wp_seq ?_
        refine d_start [7] [] (by kernel_rfl) hI rfl rfl ?_
        clear hI w; intro w hI
        refine d_pure 0 hE rfl (by kernel_rfl) (by kernel_rfl) (by kernel_rfl) rfl (fun _ _ _ h => h) rfl rfl rfl (p_fieldAddr (m := 0) rfl fo_69_0 rfl) (fun _ => hI) (listed' := #[true, false, false, false, false, false, false, false, false, false]) rfl ?_; clear hE a; intro a hE
        refine d_load 1 hE rfl (by kernel_rfl) (by kernel_rfl) (by kernel_rfl) (by kernel_rfl) (by kernel_rfl) rfl rfl (fun _ _ _ h => h) rfl rfl rfl (fun w hS => f_load rfl scal_22 (Inv.seg 0 hS rfl) rfl) (hI) (listed' := #[true, true, false, false, false, false, false, false, false, false]) rfl ?_; clear hE a; intro a hE
        refine d_pure 3 hE rfl (by kernel_rfl) (by kernel_rfl) (by kernel_rfl) rfl (fun _ _ _ h => h) rfl rfl rfl (p_fieldAddr (m := 1) rfl fo_69_1 rfl) (fun _ => hI) (listed' := #[true, true, false, true, false, false, false, false, false, false]) rfl ?_; clear hE a; intro a hE
        refine d_load 4 hE rfl (by kernel_rfl) (by kernel_rfl) (by kernel_rfl) (by kernel_rfl) (by kernel_rfl) rfl rfl (fun _ _ _ h => h) rfl rfl rfl (fun w hS => f_load rfl scal_22 (Inv.seg 0 hS rfl) rfl) (hI) (listed' := #[true, true, false, true, true, false, false, false, false, false]) rfl ?_; clear hE a; intro a hE
        refine d_one 2 hE rfl (by kernel_rfl) rfl (listed' := #[true, true, true, true, true, false, false, false, false, false]) rfl ?_
        refine o_call hE rfl rfl rfl rfl ent_73 (Clone_data (bs := x_94.1) hI hk_94 (by have := hok_94.1; have := hok_94.2; omega)) ?_
        clear hI hE a
        rintro r w ⟨D100, hD101, hI, hb102⟩ a hE
        obtain ⟨A103, c104, rfl, _⟩ := hb102.slice
        refine ⟨fun _ => (Inv.weaken hI hD101), ?_⟩
        refine d_one 5 hE rfl (by kernel_rfl) rfl (listed' := #[true, true, true, true, true, true, false, false, false, false]) rfl ?_
        refine o_call hE rfl rfl rfl rfl ent_73 (Clone_data (bs := x_94.2) hI (hv_94.mono hD101) (by have := hok_94.1; have := hok_94.2; omega)) ?_
        clear hI hE a
        rintro r w ⟨D105, hD106, hI, hb107⟩ a hE
        obtain ⟨A108, c109, rfl, _⟩ := hb107.slice
        refine ⟨fun _ => (Inv.weaken hI (hD101.trans hD106)), ?_⟩
        refine d_pure 6 hE rfl (by kernel_rfl) (by kernel_rfl) (by kernel_rfl) rfl (fun _ _ _ h => h) rfl rfl rfl (f_build (vs := [(0, _), (1, _)]) (l := [_, _]) rfl built_69 rfl) (fun _ => (Inv.weaken hI (hD101.trans hD106))) (listed' := #[true, true, true, true, true, true, true, false, false, false]) rfl ?_; clear hE a; intro a hE
        refine d_one 7 hE rfl (by kernel_rfl) rfl (listed' := #[true, true, true, true, true, true, true, true, false, false]) rfl ?_
        refine f_store (l := [_, _]) (ss' := _ :: _ :: _ :: _ :: _) 3 hE hI rfl rfl rfl rfl rfl sz_69 (by simp [Value.cells, Value.oneCell', pgCells, rcCells, zPg]) rfl rfl rfl ?_
        clear hI w; intro w hI
        refine ⟨(fun h => Bool.noConfusion (show false = true from h)), ?_⟩
        refine d_pure 8 hE rfl (by kernel_rfl) (by kernel_rfl) (by kernel_rfl) rfl (fun _ _ _ h => h) rfl rfl rfl (p_assign rfl) ((fun h => Bool.noConfusion (show false = true from h))) (listed' := #[true, true, true, true, true, true, true, true, true, false]) rfl ?_; clear hE a; intro a hE
        refine d_pure 9 hE rfl (by kernel_rfl) (by kernel_rfl) (by kernel_rfl) rfl (fun _ _ _ h => h) rfl rfl rfl (p_assign rfl) ((fun h => Bool.noConfusion (show false = true from h))) (listed' := #[true, true, true, true, true, true, true, true, true, true]) rfl ?_; clear hE a; intro a hE
        refine d_done (by kernel_rfl) ?_
        refine then_normal ?_
        refine wp_ret ?_
        refine then_ret ?_
        refine blk_ret ?_
        refine then_ret ?_
        refine then_ret ?_
        refine blk_ret ?_
        refine then_ret ?_
        refine sc_ret ?_
        refine retc3 rfl hE rfl agg_69 (hI.seg 3 rfl) rfl rfl rfl ?_
        have hgd : x1.ents.getD (findP x1.ents key).1 ([], []) = x_94 := by rw [List.getD_eq_getElem?_getD, hx_94]; rfl
        replace hI := hI.erase 3
        replace hI := hI.erase 2
        replace hI := hI.erase 0
        exact .inl ⟨some x_94, heq.trans (by rw [show 256 - i = (256 - (i + 1)) + 1 by omega]; simp only [Bt.fromF, hfd_hfl35, eq_true (show (findP x1.ents key).1 < x1.ents.length by omega), hgd, Bool.and_true, Bool.and_false, Bool.true_and, Bool.false_and, Bool.and_self, Bool.false_eq_true, eq_self, reduceCtorEq, if_true, if_false, ite_true, ite_false]), _, _, _, ((hD1.trans hD101).trans hD106), rfl, (hb102.mono hD106), hb107, (hT1.mono (hD101.trans hD106)), hI⟩
      intro hkk; replace hkk := lss_f hkk; clear hE a; intro a hE
      refine wnt ?_
      refine c_false hE rfl ?_
      refine wp_skip ?_
      refine then_normal ?_
      refine wp_seq ?_
      refine wsr ?_
      refine qs hE rfl rfl rfl (p_fieldAddr (m := 3) rfl fo_83_3 rfl) ?_; clear hE a; intro a hE
      refine ql hE rfl rfl rfl (f_load rfl scal_3 (hI.seg 1 rfl) rfl) ?_; clear hE a; intro a hE
      refine l_step rfl (o_cmp hE rfl rfl rfl rfl rfl rfl ?_ ?_)
      · intro hnx; replace hnx := eql_t hnx; clear hE a; intro a hE
        refine wnt ?_
        refine c_true hE rfl ?_
        refine wp_exit ?_
        refine then_exit ?_
        refine blk_other rfl ?_
        refine then_exit ?_
        refine then_exit ?_
        refine blk_same ?_
        refine then_normal ?_
        refine wsr ?_
        refine qs hE rfl rfl rfl (f_build (vs := []) (l := [_, _]) rfl built_69 rfl) ?_; clear hE a; intro a hE
        refine l_step rfl (f_store (l := [_, _]) (ss' := _ :: _ :: _ :: _) 2 hE hI rfl rfl rfl rfl rfl sz_69 (by simp [Value.cells, Value.oneCell', pgCells, rcCells, zPg]) rfl rfl rfl ?_)
        clear hI w; intro w hI
        refine qa hE rfl rfl rfl rfl rfl ?_; clear hE a; intro a hE
        refine qa hE rfl rfl rfl rfl rfl ?_; clear hE a; intro a hE
        refine wnt ?_
        refine wp_ret ?_
        refine sc_ret ?_
        refine retc3 rfl hE rfl agg_69 (hI.seg 2 rfl) rfl rfl rfl ?_
        replace hI := hI.erase 2
        replace hI := hI.erase 1
        exact .inl ⟨none, heq.trans (by rw [show 256 - i = (256 - (i + 1)) + 1 by omega]; simp only [Bt.fromF, hfd_hfl35, eq_false (show ¬ ((findP x1.ents key).1 < x1.ents.length) by omega), eq_true (show x1.next = -1 by omega), Bool.and_true, Bool.and_false, Bool.true_and, Bool.false_and, Bool.and_self, Bool.false_eq_true, eq_self, reduceCtorEq, if_true, if_false, ite_true, ite_false]), _, _, _, hD1, rfl, RB.nil _, RB.nil _, hT1, hI⟩
      intro hnx; replace hnx := eql_f hnx; clear hE a; intro a hE
      refine wnt ?_
      refine c_false hE rfl ?_
      refine wp_skip ?_
      refine then_normal ?_
      refine wsr ?_
      refine qm hE rfl rfl rfl rfl rfl ?_; clear hE a; intro a hE
      refine qs hE rfl rfl rfl (p_fieldAddr (m := 3) rfl fo_83_3 rfl) ?_; clear hE a; intro a hE
      refine ql hE rfl rfl rfl (f_load rfl scal_3 (hI.seg 1 rfl) rfl) ?_; clear hE a; intro a hE
      refine l_step rfl (o_call hE rfl rfl rfl rfl ent_88 (page_spec hI (hS.mono hD1) hT1 (x1.next)) ?_)
      clear hI hE a
      rintro r w h a hE; rcases h with ⟨x110, hx111, D112, e113, hD114, rfl, he115, ho116, hT117, hI⟩ | ⟨c118, o119, hx111, rfl, s120, hT117, hI⟩
      · skip
        have hlen_x110 := ho116.len
        obtain ⟨A121, c122, rfl, _⟩ := he115.slice
        refine qm hE rfl rfl rfl rfl rfl ?_; clear hE a; intro a hE
        refine qs hE rfl rfl rfl (f_extract rfl rfl) ?_; clear hE a; intro a hE
        refine qs hE rfl rfl rfl (f_extract rfl rfl) ?_; clear hE a; intro a hE
        refine l_step rfl (f_store (l := [_, _, _, _, _]) (ss' := _ :: _ :: _) 1 hE hI rfl rfl rfl rfl rfl sz_83 (by simp [Value.cells, Value.oneCell', pgCells, rcCells, zPg]) rfl rfl rfl ?_)
        clear hI w; intro w hI
        refine qa hE rfl rfl rfl rfl rfl ?_; clear hE a; intro a hE
        refine wnt ?_
        refine wsr ?_
        refine qm hE rfl rfl rfl rfl rfl ?_; clear hE a; intro a hE
        refine qs hE rfl rfl rfl (p_ifaceNil Tryd.underlying25 rfl rfl rfl) ?_; clear hE a; intro a hE
        refine wnt ?_
        refine c_false hE rfl ?_
        refine wp_skip ?_
        refine blk_normal ?_
        refine then_normal ?_
        refine wp_region_list ?_
        refine qs hE rfl rfl rfl (p_arith (z := ((i + 1 : Nat) : Int)) rfl rfl (add_z (by omega) (by omega) (by omega))) ?_; clear hE a; intro a hE
        refine qm hE rfl rfl rfl rfl rfl ?_; clear hE a; intro a hE
        refine wnt ?_
        replace hI := hI.bring 2
        replace hI := hI.bring 2
        replace hI := hI.bring 2
        exact ⟨(D112, i + 1, x110, _), hE.pick [0, 1, 2, 6, 12, 38], ⟨by show i + 1 ≤ _; omega, (hD1.trans hD114), heq.trans (by rw [show 256 - i = (256 - (i + 1)) + 1 by omega]; simp only [Bt.fromF, hfd_hfl35, hx111, eq_false (show ¬ ((findP x1.ents key).1 < x1.ents.length) by omega), eq_false (show ¬ (x1.next = -1) by omega), Bool.and_true, Bool.and_false, Bool.true_and, Bool.false_and, Bool.and_self, Bool.false_eq_true, eq_self, reduceCtorEq, if_true, if_false, ite_true, ite_false]), he115, ho116, hT117, hI⟩, by show 256 - (i + 1) < 256 - i; omega⟩
      refine qm hE rfl rfl rfl rfl rfl ?_; clear hE a; intro a hE
      refine qs hE rfl rfl rfl (f_extract rfl rfl) ?_; clear hE a; intro a hE
      refine qs hE rfl rfl rfl (f_extract rfl rfl) ?_; clear hE a; intro a hE
      refine l_step rfl (f_store (l := [_, _, _, _, _]) (ss' := _ :: _ :: _) 1 hE hI rfl rfl rfl rfl rfl sz_83 (by simp [Value.cells, Value.oneCell', pgCells, rcCells, zPg]) rfl rfl rfl ?_)
      clear hI w; intro w hI
      refine qa hE rfl rfl rfl rfl rfl ?_; clear hE a; intro a hE
      refine wnt ?_
      refine wsr ?_
      refine qm hE rfl rfl rfl rfl rfl ?_; clear hE a; intro a hE
      refine qs hE rfl rfl rfl (p_ifaceNil Tryd.underlying25 rfl rfl rfl) ?_; clear hE a; intro a hE
      refine wnt ?_
      refine c_true hE rfl ?_
      refine wsr ?_
      refine qs hE rfl rfl rfl (f_build (vs := []) (l := [_, _]) rfl built_69 rfl) ?_; clear hE a; intro a hE
      refine qm hE rfl rfl rfl rfl rfl ?_; clear hE a; intro a hE
      refine l_step rfl (f_store (l := [_, _]) (ss' := _ :: _ :: _ :: _) 2 hE hI rfl rfl rfl rfl rfl sz_69 (by simp [Value.cells, Value.oneCell', pgCells, rcCells, zPg]) rfl rfl rfl ?_)
      clear hI w; intro w hI
      refine qa hE rfl rfl rfl rfl rfl ?_; clear hE a; intro a hE
      refine qa hE rfl rfl rfl rfl rfl ?_; clear hE a; intro a hE
      refine wnt ?_
      refine wp_ret ?_
      refine blk_ret ?_
      refine then_ret ?_
      refine then_ret ?_
      refine blk_ret ?_
      refine then_ret ?_
      refine sc_ret ?_
      refine retc3 rfl hE rfl agg_69 (hI.seg 2 rfl) rfl rfl rfl ?_
      replace hI := hI.erase 2
      replace hI := hI.erase 1
      exact .inr ⟨_, o119, heq.trans (by rw [show 256 - i = (256 - (i + 1)) + 1 by omega]; simp only [Bt.fromF, hfd_hfl35, hx111, eq_false (show ¬ ((findP x1.ents key).1 < x1.ents.length) by omega), eq_false (show ¬ (x1.next = -1) by omega), Bool.and_true, Bool.and_false, Bool.true_and, Bool.false_and, Bool.and_self, Bool.false_eq_true, eq_self, reduceCtorEq, if_true, if_false, ite_true, ite_false]), rfl, _, _, hD1, hT117, hI⟩
    intro hlt; replace hlt := lss_f hlt; clear hE a; intro a hE
    refine wnt ?_
    refine wp_seq ?_
    refine c_false hE rfl ?_
    refine wp_exit ?_
    refine then_exit ?_
    refine then_exit ?_
    refine blk_same ?_
    refine then_normal ?_
    refine wsr ?_
    refine qs hE rfl rfl rfl (f_build (vs := []) (l := [_, _]) rfl built_69 rfl) ?_; clear hE a; intro a hE
    refine l_step rfl (f_store (l := [_, _]) (ss' := _ :: _ :: _ :: _) 2 hE hI rfl rfl rfl rfl rfl sz_69 (by simp [Value.cells, Value.oneCell', pgCells, rcCells, zPg]) rfl rfl rfl ?_)
    clear hI w; intro w hI
    refine qa hE rfl rfl rfl rfl rfl ?_; clear hE a; intro a hE
    refine qa hE rfl rfl rfl rfl rfl ?_; clear hE a; intro a hE
    refine wnt ?_
    refine wp_ret ?_
    refine sc_ret ?_
    refine retc3 rfl hE rfl agg_69 (hI.seg 2 rfl) rfl rfl rfl ?_
    replace hI := hI.erase 2
    replace hI := hI.erase 1
    exact .inl ⟨none, (by rw [heq, show 256 - i = 0 by omega]; rfl), _, _, _, hD1, rfl, RB.nil _, RB.nil _, hT1, hI⟩
  replace hI := hI.put_back 1
  try simp only [splice, insAt, List.set_cons_succ, List.set_cons_zero, List.setIfInBounds_toArray, Value.cells, List.eraseIdx_cons_succ, List.eraseIdx_cons_zero, List.eraseIdx_zero, List.tail_cons] at hI
  refine qm hE rfl rfl rfl rfl rfl ?_; clear hE a; intro a hE
  refine qs hE rfl rfl rfl (f_extract rfl rfl) ?_; clear hE a; intro a hE
  refine qs hE rfl rfl rfl (f_extract rfl rfl) ?_; clear hE a; intro a hE
  refine qs hE rfl rfl rfl (f_extract rfl rfl) ?_; clear hE a; intro a hE
  refine qa hE rfl rfl rfl rfl rfl ?_; clear hE a; intro a hE
  refine qa hE rfl rfl rfl rfl rfl ?_; clear hE a; intro a hE
  refine qa hE rfl rfl rfl rfl rfl ?_; clear hE a; intro a hE
  refine wnt ?_
  refine wp_seq ?_
  refine wsr ?_
  refine qm hE rfl rfl rfl rfl rfl ?_; clear hE a; intro a hE
  refine qs hE rfl rfl rfl (p_ifaceNil Tryd.underlying25 rfl rfl rfl) ?_; clear hE a; intro a hE
  refine wnt ?_
  refine c_true hE rfl ?_
  refine wsr ?_
  refine qs hE rfl rfl rfl (f_build (vs := []) (l := [_, _]) rfl built_69 rfl) ?_; clear hE a; intro a hE
  refine qm hE rfl rfl rfl rfl rfl ?_; clear hE a; intro a hE
  refine l_step rfl (f_store (l := [_, _]) (ss' := _ :: _) 0 hE hI rfl rfl rfl rfl rfl sz_69 (by simp [Value.cells, Value.oneCell', pgCells, rcCells, zPg]) rfl rfl rfl ?_)
  clear hI w; intro w hI
  refine qa hE rfl rfl rfl rfl rfl ?_; clear hE a; intro a hE
  refine qa hE rfl rfl rfl rfl rfl ?_; clear hE a; intro a hE
  refine wnt ?_
  refine wp_ret ?_
  refine then_ret ?_
  refine sc_ret ?_
  refine retc3 rfl hE rfl agg_69 (hI.seg 0 rfl) rfl rfl rfl ?_
  replace hI := hI.erase 0
  exact .inr ⟨_, o18, by simp only [Bt.from_, eq_false (show ¬ (32 < key.length) by omega), hx7, ite_false, if_false], rfl, _, _, hD21, hT22, hI⟩
theorem Next_spec {w0 w : World} {D : Sto} {ss : List Seg} {s : Seg} {vb vp : Value} {b : Bt} {P : Pl} (hI : Inv w0 D (s :: ss) w) {ad : Nat → Addr} (hS : TSents D ad) (hT : TreeS D vb vp b P s) {vk : Value} {key : Bs} (hk : RB D vk key) :
    Calls Tryd.prog 49 #[vb, vk] w (Ret fun r w' => (∃ res, b.from_ key false = .ok res ∧ ∃ D' k v, Le D D' ∧ r = .tuple #[.agg #[k, v], .bool res.isSome, .nilIface] ∧ RB D' k (res.getD ([], [])).1 ∧ RB D' v (res.getD ([], [])).2 ∧ TreeS D' vb vp b P s ∧ Inv w0 D' (s :: ss) w') ∨ (∃ c o, b.from_ key false = .fail c o ∧ r = .tuple #[.agg #[.slice none 0 0, .slice none 0 0], .bool false, errV ad c] ∧ ∃ D' s', Le D D' ∧ TreeS D' vb vp b (P.after o) s' ∧ Inv w0 D' (s' :: ss) w')) := by
  obtain ⟨A1, c2, rfl, _⟩ := hk.slice
  refine enter (N := 13) Tryd.func49 rfl rfl rfl ?_
  intro a hE
  refine wsr ?_
  refine l_step rfl (f_alloc (cs := #[.slice none 0 0, .slice none 0 0]) hE hI rfl rfl rfl zer_69 rfl ?_)
  clear hI hE a w; intro a b3 w hE hI
  refine qa hE rfl rfl rfl rfl rfl ?_; clear hE a; intro a hE
  refine qa hE rfl rfl rfl rfl rfl ?_; clear hE a; intro a hE
  refine wnt ?_
  refine wsr ?_
  refine qm hE rfl rfl rfl rfl rfl ?_; clear hE a; intro a hE
  refine qm hE rfl rfl rfl rfl rfl ?_; clear hE a; intro a hE
  refine l_step rfl (o_call hE rfl rfl rfl rfl ent_97 (from_spec (hI.bring 1) hS hT hk false) ?_)
  clear hI hE a
  rintro r w h a hE; rcases h with ⟨res, hres, D1, k, v, hD1, rfl, hrk, hrv, hT1, hI⟩ | ⟨c, o, hres, rfl, D2, s2, hD2, hT2, hI⟩
  · skip
    replace hI := hI.put_back 1
    try simp only [splice, insAt, List.set_cons_succ, List.set_cons_zero, List.setIfInBounds_toArray, Value.cells, List.eraseIdx_cons_succ, List.eraseIdx_cons_zero, List.eraseIdx_zero, List.tail_cons] at hI
    obtain ⟨A4, c5, rfl, _⟩ := hrk.slice
    obtain ⟨A6, c7, rfl, _⟩ := hrv.slice
    refine qs hE rfl rfl rfl (f_extract rfl rfl) ?_; clear hE a; intro a hE
    refine qs hE rfl rfl rfl (f_extract rfl rfl) ?_; clear hE a; intro a hE
    refine qs hE rfl rfl rfl (f_extract rfl rfl) ?_; clear hE a; intro a hE
    refine l_step rfl (f_store (l := [_, _]) (ss' := _ :: _) 0 hE hI rfl rfl rfl rfl rfl sz_69 (by simp [Value.cells, Value.oneCell', pgCells, rcCells, zPg]) rfl rfl rfl ?_)
    clear hI w; intro w hI
    refine qa hE rfl rfl rfl rfl rfl ?_; clear hE a; intro a hE
    refine qa hE rfl rfl rfl rfl rfl ?_; clear hE a; intro a hE
    refine wnt ?_
    refine wp_ret ?_
    refine retc3 rfl hE rfl agg_69 (hI.seg 0 rfl) rfl rfl rfl ?_
    replace hI := hI.erase 0
    exact .inl ⟨_, hres, _, _, _, hD1, rfl, hrk, hrv, hT1, hI⟩
  replace hI := hI.put_back 1
  try simp only [splice, insAt, List.set_cons_succ, List.set_cons_zero, List.setIfInBounds_toArray, Value.cells, List.eraseIdx_cons_succ, List.eraseIdx_cons_zero, List.eraseIdx_zero, List.tail_cons] at hI
  refine qs hE rfl rfl rfl (f_extract rfl rfl) ?_; clear hE a; intro a hE
  refine qs hE rfl rfl rfl (f_extract rfl rfl) ?_; clear hE a; intro a hE
  refine qs hE rfl rfl rfl (f_extract rfl rfl) ?_; clear hE a; intro a hE
  refine l_step rfl (f_store (l := [_, _]) (ss' := _ :: _) 0 hE hI rfl rfl rfl rfl rfl sz_69 (by simp [Value.cells, Value.oneCell', pgCells, rcCells, zPg]) rfl rfl rfl ?_)
  clear hI w; intro w hI
  refine qa hE rfl rfl rfl rfl rfl ?_; clear hE a; intro a hE
  refine qa hE rfl rfl rfl rfl rfl ?_; clear hE a; intro a hE
  refine wnt ?_
  refine wp_ret ?_
  refine retc3 rfl hE rfl agg_69 (hI.seg 0 rfl) rfl rfl rfl ?_
  replace hI := hI.erase 0
  exact .inr ⟨_, _, hres, rfl, _, _, hD2, hT2, hI⟩
theorem Above_spec {w0 w : World} {D : Sto} {ss : List Seg} {s : Seg} {vb vp : Value} {b : Bt} {P : Pl} (hI : Inv w0 D (s :: ss) w) {ad : Nat → Addr} (hS : TSents D ad) (hT : TreeS D vb vp b P s) {vk : Value} {key : Bs} (hk : RB D vk key) :
    Calls Tryd.prog 115 #[vb, vk] w (Ret fun r w' => (∃ res, b.from_ key true = .ok res ∧ ∃ D' k v, Le D D' ∧ r = .tuple #[.agg #[k, v], .bool res.isSome, .nilIface] ∧ RB D' k (res.getD ([], [])).1 ∧ RB D' v (res.getD ([], [])).2 ∧ TreeS D' vb vp b P s ∧ Inv w0 D' (s :: ss) w') ∨ (∃ c o, b.from_ key true = .fail c o ∧ r = .tuple #[.agg #[.slice none 0 0, .slice none 0 0], .bool false, errV ad c] ∧ ∃ D' s', Le D D' ∧ TreeS D' vb vp b (P.after o) s' ∧ Inv w0 D' (s' :: ss) w')) := by
  obtain ⟨A1, c2, rfl, _⟩ := hk.slice
  refine enter (N := 13) Tryd.func115 rfl rfl rfl ?_
  intro a hE
  refine wsr ?_
  refine l_step rfl (f_alloc (cs := #[.slice none 0 0, .slice none 0 0]) hE hI rfl rfl rfl zer_69 rfl ?_)
  clear hI hE a w; intro a b3 w hE hI
  refine qa hE rfl rfl rfl rfl rfl ?_; clear hE a; intro a hE
  refine qa hE rfl rfl rfl rfl rfl ?_; clear hE a; intro a hE
  refine wnt ?_
  refine wsr ?_
  refine qm hE rfl rfl rfl rfl rfl ?_; clear hE a; intro a hE
  refine qm hE rfl rfl rfl rfl rfl ?_; clear hE a; intro a hE
  refine l_step rfl (o_call hE rfl rfl rfl rfl ent_97 (from_spec (hI.bring 1) hS hT hk true) ?_)
  clear hI hE a
  rintro r w h a hE; rcases h with ⟨res, hres, D1, k, v, hD1, rfl, hrk, hrv, hT1, hI⟩ | ⟨c, o, hres, rfl, D2, s2, hD2, hT2, hI⟩
  · skip
    replace hI := hI.put_back 1
    try simp only [splice, insAt, List.set_cons_succ, List.set_cons_zero, List.setIfInBounds_toArray, Value.cells, List.eraseIdx_cons_succ, List.eraseIdx_cons_zero, List.eraseIdx_zero, List.tail_cons] at hI
    obtain ⟨A4, c5, rfl, _⟩ := hrk.slice
    obtain ⟨A6, c7, rfl, _⟩ := hrv.slice
    refine qs hE rfl rfl rfl (f_extract rfl rfl) ?_; clear hE a; intro a hE
    refine qs hE rfl rfl rfl (f_extract rfl rfl) ?_; clear hE a; intro a hE
    refine qs hE rfl rfl rfl (f_extract rfl rfl) ?_; clear hE a; intro a hE
    refine l_step rfl (f_store (l := [_, _]) (ss' := _ :: _) 0 hE hI rfl rfl rfl rfl rfl sz_69 (by simp [Value.cells, Value.oneCell', pgCells, rcCells, zPg]) rfl rfl rfl ?_)
    clear hI w; intro w hI
    refine qa hE rfl rfl rfl rfl rfl ?_; clear hE a; intro a hE
    refine qa hE rfl rfl rfl rfl rfl ?_; clear hE a; intro a hE
    refine wnt ?_
    refine wp_ret ?_
    refine retc3 rfl hE rfl agg_69 (hI.seg 0 rfl) rfl rfl rfl ?_
    replace hI := hI.erase 0
    exact .inl ⟨_, hres, _, _, _, hD1, rfl, hrk, hrv, hT1, hI⟩
  replace hI := hI.put_back 1
  try simp only [splice, insAt, List.set_cons_succ, List.set_cons_zero, List.setIfInBounds_toArray, Value.cells, List.eraseIdx_cons_succ, List.eraseIdx_cons_zero, List.eraseIdx_zero, List.tail_cons] at hI
  refine qs hE rfl rfl rfl (f_extract rfl rfl) ?_; clear hE a; intro a hE
  refine qs hE rfl rfl rfl (f_extract rfl rfl) ?_; clear hE a; intro a hE
  refine qs hE rfl rfl rfl (f_extract rfl rfl) ?_; clear hE a; intro a hE
  refine l_step rfl (f_store (l := [_, _]) (ss' := _ :: _) 0 hE hI rfl rfl rfl rfl rfl sz_69 (by simp [Value.cells, Value.oneCell', pgCells, rcCells, zPg]) rfl rfl rfl ?_)
  clear hI w; intro w hI
  refine qa hE rfl rfl rfl rfl rfl ?_; clear hE a; intro a hE
  refine qa hE rfl rfl rfl rfl rfl ?_; clear hE a; intro a hE
  refine wnt ?_
  refine wp_ret ?_
  refine retc3 rfl hE rfl agg_69 (hI.seg 0 rfl) rfl rfl rfl ?_
  replace hI := hI.erase 0
  exact .inr ⟨_, _, hres, rfl, _, _, hD2, hT2, hI⟩
end Go.Proofs.YtbogbnkckofpdaaDoor.B
