/- What functions of the program compute, each function once: steps over the model, and the plain law of it. -/
import Derived.Test.YtbogbnkckofpdaaDoorTScanFrom
namespace Go.Proofs.YtbogbnkckofpdaaDoor.B
open Go Go.Proofs
set_option linter.unusedVariables false
set_option linter.unusedSimpArgs false
set_option maxRecDepth 20000
set_option maxHeartbeats 8000000
namespace FTScanTwice
theorem agg_69 : aggSize Tryd.prog 69 = some 2 := by kernel_rfl
theorem ent_18 : enters Tryd.prog 18 = true := by kernel_rfl
theorem ent_22 : enters Tryd.prog 22 = true := by kernel_rfl
theorem ent_31 : enters Tryd.prog 31 = true := by kernel_rfl
theorem ent_38 : enters Tryd.prog 38 = true := by kernel_rfl
theorem ent_39 : enters Tryd.prog 39 = true := by kernel_rfl
theorem ent_41 : enters Tryd.prog 41 = true := by kernel_rfl
theorem ent_42 : enters Tryd.prog 42 = true := by kernel_rfl
theorem ent_43 : enters Tryd.prog 43 = true := by kernel_rfl
theorem fo_69_0 : fieldOff Tryd.prog 69 0 = some 0 := by kernel_rfl
theorem fo_69_1 : fieldOff Tryd.prog 69 1 = some 1 := by kernel_rfl
theorem scal_22 : isScal Tryd.prog 22 = true := by kernel_rfl
theorem scal_3 : isScal Tryd.prog 3 = true := by kernel_rfl
theorem scal_4 : isScal Tryd.prog 4 = true := by kernel_rfl
theorem scal_52 : isScal Tryd.prog 52 = true := by kernel_rfl
theorem scal_65 : isScal Tryd.prog 65 = true := by kernel_rfl
theorem sz_3 : (Tryd.prog.info? 3).map (·.size) = some 1 := by kernel_rfl
theorem sz_4 : (Tryd.prog.info? 4).map (·.size) = some 1 := by kernel_rfl
theorem sz_52 : (Tryd.prog.info? 52).map (·.size) = some 1 := by kernel_rfl
theorem sz_65 : (Tryd.prog.info? 65).map (·.size) = some 1 := by kernel_rfl
theorem sz_69 : (Tryd.prog.info? 69).map (·.size) = some 2 := by kernel_rfl
theorem zer_3 : (Tryd.prog.info? 3).bind (·.zero) = some (.int .i64 0) := by kernel_rfl
theorem zer_4 : (Tryd.prog.info? 4).bind (·.zero) = some (.bool false) := by kernel_rfl
theorem zer_52 : (Tryd.prog.info? 52).bind (·.zero) = some (.pointer none) := by kernel_rfl
theorem zer_65 : (Tryd.prog.info? 65).bind (·.zero) = some (.slice none 0 0) := by kernel_rfl
theorem zer_69 : (Tryd.prog.info? 69).bind (·.zero) = some (.agg #[.slice none 0 0, .slice none 0 0]) := by kernel_rfl
end FTScanTwice
open FTScanTwice
theorem DR.at_eq {D : Sto} {v : Value} {xs ys : Ens} (h : DR 2 EnR D v xs) (e : xs = ys) : DR 2 EnR D v ys := e ▸ h
theorem SameEntry_spec {w0 w : World} {D : Sto} {ss : List Seg} (hI : Inv w0 D ss w) {k1 v1 k2 v2 : Value} {e1 e2 : Bs × Bs} (hk1 : RB D k1 e1.1) (hv1 : RB D v1 e1.2) (hk2 : RB D k2 e2.1) (hv2 : RB D v2 e2.2) (hl1 : e1.1.length ≤ 100000) (hl2 : e1.2.length ≤ 100000) :
    Calls Tryd.prog 42 #[.agg #[k1, v1], .agg #[k2, v2]] w (Ret fun r w' => Ans (e1.1 = e2.1 ∧ e1.2 = e2.2) (Inv w0 D ss) r w') := by
  obtain ⟨A1, c2, rfl, _⟩ := hk1.slice
  obtain ⟨A3, c4, rfl, _⟩ := hv1.slice
  obtain ⟨A5, c6, rfl, _⟩ := hk2.slice
  obtain ⟨A7, c8, rfl, _⟩ := hv2.slice
  refine enter (N := 21) Tryd.func42 rfl rfl rfl ?_
  intro a hE
  refine wsr ?_
  refine l_step rfl (f_box (cs := #[_, _]) hE hI rfl rfl rfl rfl rfl ?_)
  clear hI hE a w; intro a b9 w hE hI
  refine l_step rfl (f_box (cs := #[_, _]) hE hI rfl rfl rfl rfl rfl ?_)
  clear hI hE a w; intro a b10 w hE hI
  refine qa hE rfl rfl rfl rfl rfl ?_; clear hE a; intro a hE
  refine wnt ?_
  refine wsr ?_
  refine qs hE rfl rfl rfl (p_fieldAddr (m := 0) rfl fo_69_0 rfl) ?_; clear hE a; intro a hE
  refine ql hE rfl rfl rfl (f_load rfl scal_22 (hI.seg 1 rfl) rfl) ?_; clear hE a; intro a hE
  refine qs hE rfl rfl rfl (p_fieldAddr (m := 0) rfl fo_69_0 rfl) ?_; clear hE a; intro a hE
  refine ql hE rfl rfl rfl (f_load rfl scal_22 (hI.seg 0 rfl) rfl) ?_; clear hE a; intro a hE
  refine l_step rfl (o_call hE rfl rfl rfl rfl ent_18 (SameBytes_spec hI hk1 hk2 (by omega)) ?_)
  clear hI hE a
  rintro r w h a hE; rcases h with ⟨rfl, h1, hI⟩ | ⟨rfl, h1, hI⟩
  · skip
    refine qa hE rfl rfl rfl rfl rfl ?_; clear hE a; intro a hE
    refine wnt ?_
    refine wsr ?_
    refine qs hE rfl rfl rfl (p_fieldAddr (m := 1) rfl fo_69_1 rfl) ?_; clear hE a; intro a hE
    refine ql hE rfl rfl rfl (f_load rfl scal_22 (hI.seg 1 rfl) rfl) ?_; clear hE a; intro a hE
    refine qs hE rfl rfl rfl (p_fieldAddr (m := 1) rfl fo_69_1 rfl) ?_; clear hE a; intro a hE
    refine ql hE rfl rfl rfl (f_load rfl scal_22 (hI.seg 0 rfl) rfl) ?_; clear hE a; intro a hE
    refine l_step rfl (o_call hE rfl rfl rfl rfl ent_18 (SameBytes_spec hI hv1 hv2 (by omega)) ?_)
    clear hI hE a
    rintro r w h a hE; rcases h with ⟨rfl, h2, hI⟩ | ⟨rfl, h2, hI⟩
    · skip
      refine qa hE rfl rfl rfl rfl rfl ?_; clear hE a; intro a hE
      refine wnt ?_
      refine wsr ?_
      refine qm hE rfl rfl rfl rfl rfl ?_; clear hE a; intro a hE
      refine qm hE rfl rfl rfl rfl rfl ?_; clear hE a; intro a hE
      refine l_go hE rfl (o_pure hE rfl rfl (p_move rfl).run ?_); clear hE a; intro a hE
      refine qs hE rfl rfl rfl (p_pick (b := true) rfl rfl) ?_; clear hE a; intro a hE
      refine qa hE rfl rfl rfl rfl rfl ?_; clear hE a; intro a hE
      refine wnt ?_
      refine wp_ret ?_
      refine ret1 rfl hE rfl ?_
      exact .inl ⟨rfl, ⟨h1, h2⟩, hI.drop.drop⟩
    refine qa hE rfl rfl rfl rfl rfl ?_; clear hE a; intro a hE
    refine wnt ?_
    refine wsr ?_
    refine qm hE rfl rfl rfl rfl rfl ?_; clear hE a; intro a hE
    refine qm hE rfl rfl rfl rfl rfl ?_; clear hE a; intro a hE
    refine l_go hE rfl (o_pure hE rfl rfl (p_move rfl).run ?_); clear hE a; intro a hE
    refine qs hE rfl rfl rfl (p_pick (b := true) rfl rfl) ?_; clear hE a; intro a hE
    refine qa hE rfl rfl rfl rfl rfl ?_; clear hE a; intro a hE
    refine wnt ?_
    refine wp_ret ?_
    refine ret1 rfl hE rfl ?_
    exact .inr ⟨rfl, fun h => h2 h.2, hI.drop.drop⟩
  refine qa hE rfl rfl rfl rfl rfl ?_; clear hE a; intro a hE
  refine wnt ?_
  refine wsr ?_
  refine qs hE rfl rfl rfl (p_fieldAddr (m := 1) rfl fo_69_1 rfl) ?_; clear hE a; intro a hE
  refine ql hE rfl rfl rfl (f_load rfl scal_22 (hI.seg 1 rfl) rfl) ?_; clear hE a; intro a hE
  refine qs hE rfl rfl rfl (p_fieldAddr (m := 1) rfl fo_69_1 rfl) ?_; clear hE a; intro a hE
  refine ql hE rfl rfl rfl (f_load rfl scal_22 (hI.seg 0 rfl) rfl) ?_; clear hE a; intro a hE
  refine l_step rfl (o_call hE rfl rfl rfl rfl ent_18 (SameBytes_spec hI hv1 hv2 (by omega)) ?_)
  clear hI hE a
  rintro r w h a hE; rcases h with ⟨rfl, h2, hI⟩ | ⟨rfl, h2, hI⟩
  · skip
    refine qa hE rfl rfl rfl rfl rfl ?_; clear hE a; intro a hE
    refine wnt ?_
    refine wsr ?_
    refine qm hE rfl rfl rfl rfl rfl ?_; clear hE a; intro a hE
    refine qm hE rfl rfl rfl rfl rfl ?_; clear hE a; intro a hE
    refine l_skip hE rfl rfl rfl ?_; clear hE a; intro a hE
    refine qs hE rfl rfl rfl (p_pick (b := false) rfl rfl) ?_; clear hE a; intro a hE
    refine qa hE rfl rfl rfl rfl rfl ?_; clear hE a; intro a hE
    refine wnt ?_
    refine wp_ret ?_
    refine ret1 rfl hE rfl ?_
    exact .inr ⟨rfl, fun h => h1 h.1, hI.drop.drop⟩
  refine qa hE rfl rfl rfl rfl rfl ?_; clear hE a; intro a hE
  refine wnt ?_
  refine wsr ?_
  refine qm hE rfl rfl rfl rfl rfl ?_; clear hE a; intro a hE
  refine qm hE rfl rfl rfl rfl rfl ?_; clear hE a; intro a hE
  refine l_skip hE rfl rfl rfl ?_; clear hE a; intro a hE
  refine qs hE rfl rfl rfl (p_pick (b := false) rfl rfl) ?_; clear hE a; intro a hE
  refine qa hE rfl rfl rfl rfl rfl ?_; clear hE a; intro a hE
  refine wnt ?_
  refine wp_ret ?_
  refine ret1 rfl hE rfl ?_
  exact .inr ⟨rfl, fun h => h1 h.1, hI.drop.drop⟩
theorem three_spec {w0 w : World} {D : Sto} {ss : List Seg} {sp : Seg} {vp vf vh : Value} {P : Pl} {kv : Ens} {frm : Bs} {s : Nat} (hI : Inv w0 D (sp :: ss) w) {ad : Nat → Addr} (hS : TSents D ad) (hP : PoolS D vp P sp) (hO : PoolOk P kv) (hval : ∀ e ∈ kv, e.2.length = 1) (hh : DR 2 EnR D vh (kv.drop s)) (hsl : s ≤ kv.length) (hf : RB D vf frm) (hfl : frm.length ≤ 32) (hs : fromK frm false kv = s) :
    Calls Tryd.prog 43 #[vp, vh, vf] w (Ret fun r w' => r = .bool true ∧ ∃ D' sp', Le D D' ∧ PoolS D' vp P sp' ∧ Inv w0 D' (sp' :: ss) w') := by
  obtain ⟨q, hq⟩ := hP.ptr
  subst hq
  have hlk := hO.len
  have hents : ∀ e ∈ kv, e.1.length ≤ 32 ∧ e.2.length = 1 := fun e he => ⟨hO.keys e he, hval e he⟩
  have hdl : (kv.drop s).length = kv.length - s := List.length_drop
  obtain ⟨A1, c2, rfl, _⟩ := hh.slice
  obtain ⟨A3, c4, rfl, _⟩ := hf.slice
  refine enterX (N := 41) Tryd.func43 rfl rfl rfl ?_
  intro a hE
  refine x_seq ?_
  refine x_region_list (by kernel_rfl) (fun _ _ h => h) ?_
  refine l_step rfl (f_box (cs := #[_]) hE hI rfl rfl rfl rfl rfl ?_)
  clear hI hE a w; intro a b5 w hE hI
  refine l_step rfl (f_alloc (cs := #[.bool false]) hE hI rfl rfl rfl zer_4 rfl ?_)
  clear hI hE a w; intro a b6 w hE hI
  refine wpList_nil ?_
  refine x_then_normal ?_
  refine x_seq ?_
  refine x_region_list (by kernel_rfl) (fun _ _ h => h) ?_
  refine l_step rfl (f_alloc (cs := #[.int .i64 0]) hE hI rfl rfl rfl zer_3 rfl ?_)
  clear hI hE a w; intro a b7 w hE hI
  refine l_step rfl (f_store (l := [_]) (ss' := _ :: _) 0 hE hI rfl rfl rfl rfl rfl sz_3 (by simp [Value.cells, Value.oneCell', pgCells, rcCells, zPg]) rfl rfl rfl ?_)
  clear hI w; intro w hI
  refine wpList_nil ?_
  refine x_then_normal ?_
  refine x_seq ?_
  refine x_seq ?_
  refine x_region_list (by kernel_rfl) (fun _ _ h => h) ?_
  refine qm hE rfl rfl rfl rfl rfl ?_; clear hE a; intro a hE
  refine qm hE rfl rfl rfl rfl rfl ?_; clear hE a; intro a hE
  refine l_step rfl (o_call hE rfl rfl rfl rfl ent_41 (Range_spec (frm := frm) (to := []) hI hS hO hf (RB.nil _) hfl (by simp) hs) ?_)
  clear hI hE a
  rintro r w ⟨D8, hD10, hq11, hI⟩ a hE
  obtain ⟨fq12, capq13, rfl, hfq14, hcall15⟩ := hq11
  refine wpList_nil ?_
  refine x_then_normal ?_
  refine x_block ?_
  refine x_range hE hI rfl hfq14 ?_
  clear hI w; intro fn16 lp16 kd16 tm16 rr16 w hT16 hR16 hI
  replace hI := hI.bring 5
  refine (hcall15 _ _ _ [_, _, _, _, _] _ sp lp16 (fun i16 D16 ms16 => ms16 = [[(lp16, .loop rr16)], [(kd16, .deferred (some []))], [(b7, .cells #[.int .i64 (i16 : Nat)] 3 (0, 0))], [(b6, .cells #[.bool false] 4 (0, 0))], [(b5, .cells #[.slice A1 ((kv.drop s)).length c2] 65 (0, 0))]] ∧ i16 < 3) (fun i16 D16 ms16 => ms16 = [[(lp16, .loop { rr16 with state := .done, pending := some (.exit 0) })], [(kd16, .deferred (some []))], [(b7, .cells #[.int .i64 (i16 : Nat)] 3 (0, 0))], [(b6, .cells #[.bool false] 4 (0, 0))], [(b5, .cells #[.slice A1 ((kv.drop s)).length c2] 65 (0, 0))]] ∧ i16 = 3 ∧ 3 ≤ (kv.drop s).length) (Le.refl _) hI (hP.mono hD10) ⟨fun _ _ _ _ _ h => h, ?_⟩ ⟨rfl, by omega⟩).mono ?_
  · clear hI hE a w
    intro i16 e16 D16 ms16 sp16 rest16 w vk16 vv16 he16 htl16 hD16 hJ16 hP16 hk16 hv16 hI
    obtain ⟨hJ8, hfacts16⟩ := hJ16
    have hJ8 : ms16 = _ := hJ8
    subst hJ8
    simp only [List.cons_append, List.nil_append] at hI
    subst hR16
    obtain ⟨Ak16, ck16, rfl, _⟩ := hk16.slice
    obtain ⟨Av16, cv16, rfl, _⟩ := hv16.slice
    have hlt16 := (List.getElem?_eq_some_iff.1 he16).1
    refine ⟨_, hI.seg 1 rfl, rfl, x_round2 hT16 rfl rfl rfl rfl ?_⟩
    intro a hE
    clear hT16
    refine x_seq ?_
    refine x_region_list (by kernel_rfl) (fun _ _ h => h) ?_
    refine l_step rfl (f_alloc (cs := #[.slice none 0 0, .slice none 0 0]) hE hI rfl rfl rfl zer_69 rfl ?_)
    clear hI hE a w; intro a b17 w hE hI
    refine l_step rfl (f_store (l := [_, _]) (ss' := _ :: _) 0 hE hI rfl rfl rfl rfl rfl sz_69 (by simp [Value.cells, Value.oneCell', pgCells, rcCells, zPg]) rfl rfl rfl ?_)
    clear hI w; intro w hI
    refine wpList_nil ?_
    refine x_then_normal ?_
    refine x_region_list (by kernel_rfl) (fun _ _ h => h) ?_
    refine qa hE rfl rfl rfl rfl rfl ?_; clear hE a; intro a hE
    refine wpList_nil ?_
    refine x_begin 2 hI rfl rfl ?_
    clear hI w; intro w hI
    try simp only [splice, insAt, List.set_cons_succ, List.set_cons_zero, List.setIfInBounds_toArray, Value.cells, List.eraseIdx_cons_succ, List.eraseIdx_cons_zero, List.eraseIdx_zero, List.tail_cons] at hI
    refine x_block ?_
    refine x_seq ?_
    refine x_seq ?_
    refine x_start [] [] (by kernel_rfl) (by kernel_rfl) (fun _ _ h => h) hI rfl rfl ?_
    clear hI w; intro w hI
    refine d_pure 0 hE rfl (by kernel_rfl) (by kernel_rfl) (by kernel_rfl) rfl (fun _ _ _ h => h) rfl rfl rfl (p_move rfl) (fun _ => hI) (listed' := #[true, false, false, false, false, false, false, false, false, false, false, false, false, false, false, false, false]) rfl ?_; clear hE a; intro a hE
    refine d_pure 1 hE rfl (by kernel_rfl) (by kernel_rfl) (by kernel_rfl) rfl (fun _ _ _ h => h) rfl rfl rfl (p_ifaceNil Tryd.underlying25 rfl rfl rfl) (fun _ => hI) (listed' := #[true, true, false, false, false, false, false, false, false, false, false, false, false, false, false, false, false]) rfl ?_; clear hE a; intro a hE
    refine d_pure 2 hE rfl (by kernel_rfl) (by kernel_rfl) (by kernel_rfl) rfl (fun _ _ _ h => h) rfl rfl rfl (p_move rfl) (fun _ => hI) (listed' := #[true, true, true, false, false, false, false, false, false, false, false, false, false, false, false, false, false]) rfl ?_; clear hE a; intro a hE
    refine d_load 3 hE rfl (by kernel_rfl) (by kernel_rfl) (by kernel_rfl) (by kernel_rfl) (by kernel_rfl) rfl rfl (fun _ _ _ h => h) rfl rfl rfl (fun w hS => f_load rfl scal_3 (Inv.seg 4 hS rfl) rfl) (hI) (listed' := #[true, true, true, true, false, false, false, false, false, false, false, false, false, false, false, false, false]) rfl ?_; clear hE a; intro a hE
    refine d_load 4 hE rfl (by kernel_rfl) (by kernel_rfl) (by kernel_rfl) (by kernel_rfl) (by kernel_rfl) rfl rfl (fun _ _ _ h => h) rfl rfl rfl (fun w hS => f_load rfl scal_65 (Inv.seg 6 hS rfl) rfl) (hI) (listed' := #[true, true, true, true, true, false, false, false, false, false, false, false, false, false, false, false, false]) rfl ?_; clear hE a; intro a hE
    refine d_pure 5 hE rfl (by kernel_rfl) (by kernel_rfl) (by kernel_rfl) rfl (fun _ _ _ h => h) rfl rfl rfl (p_len rfl rfl Tryd.underlying65) (fun _ => hI) (listed' := #[true, true, true, true, true, true, false, false, false, false, false, false, false, false, false, false, false]) rfl ?_; clear hE a; intro a hE
    refine d_pure 6 hE rfl (by kernel_rfl) (by kernel_rfl) (by kernel_rfl) rfl (fun _ _ _ h => h) rfl rfl rfl (p_cmp rfl rfl (geq_n (by omega))) (fun _ => hI) (listed' := #[true, true, true, true, true, true, true, false, false, false, false, false, false, false, false, false, false]) rfl ?_; clear hE a; intro a hE
    refine d_pure 7 hE rfl (by kernel_rfl) (by kernel_rfl) (by kernel_rfl) rfl (fun _ _ _ h => h) rfl rfl rfl (p_pick (b := false) rfl rfl) (fun _ => hI) (listed' := #[true, true, true, true, true, true, true, true, false, false, false, false, false, false, false, false, false]) rfl ?_; clear hE a; intro a hE
    refine d_pure 8 hE rfl (by kernel_rfl) (by kernel_rfl) (by kernel_rfl) rfl (fun _ _ _ h => h) rfl rfl rfl (p_move rfl) (fun _ => hI) (listed' := #[true, true, true, true, true, true, true, true, true, false, false, false, false, false, false, false, false]) rfl ?_; clear hE a; intro a hE
    refine d_load 9 hE rfl (by kernel_rfl) (by kernel_rfl) (by kernel_rfl) (by kernel_rfl) (by kernel_rfl) rfl rfl (fun _ _ _ h => h) rfl rfl rfl (fun w hS => f_loadA (vs := [_, _]) rfl agg_69 (Inv.seg 0 hS rfl) rfl rfl) (hI) (listed' := #[true, true, true, true, true, true, true, true, true, true, false, false, false, false, false, false, false]) rfl ?_; clear hE a; intro a hE
    refine d_load 10 hE rfl (by kernel_rfl) (by kernel_rfl) (by kernel_rfl) (by kernel_rfl) (by kernel_rfl) rfl rfl (fun _ _ _ h => h) rfl rfl rfl (fun w hS => f_load rfl scal_65 (Inv.seg 6 hS rfl) rfl) (hI) (listed' := #[true, true, true, true, true, true, true, true, true, true, true, false, false, false, false, false, false]) rfl ?_; clear hE a; intro a hE
    refine d_load 11 hE rfl (by kernel_rfl) (by kernel_rfl) (by kernel_rfl) (by kernel_rfl) (by kernel_rfl) rfl rfl (fun _ _ _ h => h) rfl rfl rfl (fun w hS => f_load rfl scal_3 (Inv.seg 4 hS rfl) rfl) (hI) (listed' := #[true, true, true, true, true, true, true, true, true, true, true, true, false, false, false, false, false]) rfl ?_; clear hE a; intro a hE
    obtain ⟨x_18, hx_18⟩ : ∃ z9, ((kv.drop s))[i16]? = some z9 := ⟨_, List.getElem?_eq_getElem (by omega)⟩
    obtain ⟨b_18, o_18, cs_18, T_18, fr_18, rfl, hb_18, hat_18⟩ := hh.at_ (by intro h0; rw [h0] at hx_18; simp at hx_18)
    obtain ⟨vs_18, hl_18, ⟨k_18, v_18, rfl, hk_18, hv_18, hok_18⟩, hex_18, hsz_18, hce_18⟩ := hat_18.extract hx_18 (by omega)
    obtain ⟨A19, c20, rfl, _⟩ := hk_18.slice
    obtain ⟨A21, c22, rfl, _⟩ := hv_18.slice
    refine d_pure 12 hE rfl (by kernel_rfl) (by kernel_rfl) (by kernel_rfl) rfl (fun _ _ _ h => h) rfl rfl rfl (p_indexAddr (m := o_18 + i16 * 2) rfl rfl Tryd.underlying65 sz_69 (by omega) (by omega) (by simp)) (fun _ => hI) (listed' := #[true, true, true, true, true, true, true, true, true, true, true, true, true, false, false, false, false]) rfl ?_; clear hE a; intro a hE
    refine d_load 13 hE rfl (by kernel_rfl) (by kernel_rfl) (by kernel_rfl) (by kernel_rfl) (by kernel_rfl) rfl rfl (fun _ _ _ h => h) rfl rfl rfl (fun w hS => r_loadA rfl agg_69 (Inv.data hS _ _ ((hD10.trans hD16) _ _ (hb_18))) hsz_18 hex_18) (hI) (listed' := #[true, true, true, true, true, true, true, true, true, true, true, true, true, true, false, false, false]) rfl ?_; clear hE a; intro a hE
    refine d_one 14 hE rfl (by kernel_rfl) rfl (listed' := #[true, true, true, true, true, true, true, true, true, true, true, true, true, true, true, false, false]) rfl ?_
    have heqhse23 : e16 = x_18 := (by have h9 := hx_18; rw [List.getElem?_drop, he16] at h9; injection h9)
    have hlehse23 : (e16).1.length ≤ 32 ∧ (e16).2.length = 1 := hents _ (List.mem_of_getElem? he16)
    refine o_call hE rfl rfl rfl rfl ent_42 (SameEntry_spec (e1 := e16) (e2 := x_18) hI hk16 hv16 (hk_18.mono (hD10.trans hD16)) (hv_18.mono (hD10.trans hD16)) (by omega) (by omega)) ?_
    clear hI hE a
    rintro r w h a hE; rcases h with ⟨rfl, hse23, hI⟩ | ⟨rfl, hse23, hI⟩
    · skip
      refine ⟨fun _ => hI, ?_⟩
      refine d_pure 15 hE rfl (by kernel_rfl) (by kernel_rfl) (by kernel_rfl) rfl (fun _ _ _ h => h) rfl rfl rfl (p_not rfl) (fun _ => hI) (listed' := #[true, true, true, true, true, true, true, true, true, true, true, true, true, true, true, true, false]) rfl ?_; clear hE a; intro a hE
      refine d_pure 16 hE rfl (by kernel_rfl) (by kernel_rfl) (by kernel_rfl) rfl (fun _ _ _ h => h) rfl rfl rfl (p_pick (b := false) rfl rfl) (fun _ => hI) (listed' := #[true, true, true, true, true, true, true, true, true, true, true, true, true, true, true, true, true]) rfl ?_; clear hE a; intro a hE
      refine d_done (by kernel_rfl) ?_
      refine x_then_normal ?_
      refine x_false hE rfl ?_
      refine x_skip ?_
      refine x_then_normal ?_
      refine x_seq ?_
      refine x_region_list (by kernel_rfl) (fun _ _ h => h) ?_
      refine ql hE rfl rfl rfl (f_load rfl scal_3 (hI.seg 4 rfl) rfl) ?_; clear hE a; intro a hE
      refine qs hE rfl rfl rfl (p_arith (z := ((i16 + 1 : Nat) : Int)) rfl rfl (add_z (by omega) (by omega) (by omega))) ?_; clear hE a; intro a hE
      refine l_step rfl (f_store (l := [_]) (ss' := _ :: _ :: _ :: _ :: _ :: _) 4 hE hI rfl rfl rfl rfl rfl sz_3 (by simp [Value.cells, Value.oneCell', pgCells, rcCells, zPg]) rfl rfl rfl ?_)
      clear hI w; intro w hI
      refine wpList_nil ?_
      refine x_then_normal ?_
      refine x_seq ?_
      refine x_region_list (by kernel_rfl) (fun _ _ h => h) ?_
      refine ql hE rfl rfl rfl (f_load rfl scal_3 (hI.seg 4 rfl) rfl) ?_; clear hE a; intro a hE
      refine l_step rfl (o_cmp hE rfl rfl rfl rfl rfl rfl ?_ ?_)
      · intro h3; replace h3 := eql_t h3; clear hE a; intro a hE
        refine wpList_nil ?_
        refine x_then_normal ?_
        refine x_true hE rfl ?_
        refine x_exit ?_
        refine x_blk_other rfl ?_
        refine x_endE 2 hI rfl ?_
        clear hI w; intro w hI
        try simp only [splice, insAt, List.set_cons_succ, List.set_cons_zero, List.setIfInBounds_toArray, Value.cells, List.eraseIdx_cons_succ, List.eraseIdx_cons_zero, List.eraseIdx_zero, List.tail_cons] at hI
        replace hI := hI.erase 0
        replace hI := hI.bring 5
        replace hI := hI.bring 5
        replace hI := hI.bring 5
        replace hI := hI.bring 5
        replace hI := hI.bring 5
        replace hI := hI.bring 5
        exact ⟨false, D16, _, sp16, rfl, (Le.refl _), (fun h => by cases h), (fun _ => ⟨rfl, by omega, by omega⟩), hP16, hI⟩
      intro h3; replace h3 := eql_f h3; clear hE a; intro a hE
      refine wpList_nil ?_
      refine x_then_normal ?_
      refine x_false hE rfl ?_
      refine x_skip ?_
      refine x_blk_normal ?_
      refine x_endN 2 hI rfl ?_
      clear hI w; intro w hI
      try simp only [splice, insAt, List.set_cons_succ, List.set_cons_zero, List.setIfInBounds_toArray, Value.cells, List.eraseIdx_cons_succ, List.eraseIdx_cons_zero, List.eraseIdx_zero, List.tail_cons] at hI
      replace hI := hI.erase 0
      replace hI := hI.bring 5
      replace hI := hI.bring 5
      replace hI := hI.bring 5
      replace hI := hI.bring 5
      replace hI := hI.bring 5
      replace hI := hI.bring 5
      exact ⟨true, D16, _, sp16, rfl, (Le.refl _), (fun _ => ⟨rfl, by omega⟩), (fun h => by cases h), hP16, hI⟩
    exfalso
    exact hse23 ⟨by rw [heqhse23], by rw [heqhse23]⟩
  rintro _ w ⟨_, rfl, i16, D16, ms16, sp16, hD16, hor16, hP16, hI⟩
  rcases hor16 with ⟨hJ16, hdone16⟩ | hX16
  · skip
    obtain ⟨hJ8, hfacts16⟩ := hJ16
    have hJ8 : ms16 = _ := hJ8
    subst hJ8
    simp only [List.cons_append, List.nil_append] at hI
    subst hR16
    refine x_done (s := .ready) 1 hI rfl (fun h => by cases h) ?_
    clear hI w; intro w hI
    try simp only [splice, insAt, List.set_cons_succ, List.set_cons_zero, List.setIfInBounds_toArray, Value.cells, List.eraseIdx_cons_succ, List.eraseIdx_cons_zero, List.eraseIdx_zero, List.tail_cons] at hI
    refine x_blk_normal ?_
    refine x_then_normal ?_
    refine x_seq ?_
    have hn9 := done_len (by omega) hdone16
    refine x_region_list (by kernel_rfl) (fun _ _ h => h) ?_
    refine ql hE rfl rfl rfl (f_load rfl scal_3 (hI.seg 2 rfl) rfl) ?_; clear hE a; intro a hE
    refine ql hE rfl rfl rfl (f_load rfl scal_65 (hI.seg 4 rfl) rfl) ?_; clear hE a; intro a hE
    refine qs hE rfl rfl rfl (p_len rfl rfl Tryd.underlying65) ?_; clear hE a; intro a hE
    refine qs hE rfl rfl rfl (p_min (z := ((i16 : Nat) : Int)) rfl rfl (by omega)) ?_; clear hE a; intro a hE
    refine qs hE rfl rfl rfl (p_cmp rfl rfl (eql_y (rfl))) ?_; clear hE a; intro a hE
    refine l_step rfl (f_store (l := [_]) (ss' := _ :: _ :: _ :: _ :: _) 3 hE hI rfl rfl rfl rfl rfl sz_4 (by simp [Value.cells, Value.oneCell', pgCells, rcCells, zPg]) rfl rfl rfl ?_)
    clear hI w; intro w hI
    refine wpList_nil ?_
    refine x_then_normal ?_
    refine x_ret ?_
    refine x_mark 1 hI rfl ?_
    clear hI w; intro w hI
    replace hI := hI.erase 1
    try simp only [splice, insAt, List.set_cons_succ, List.set_cons_zero, List.setIfInBounds_toArray, Value.cells, List.eraseIdx_cons_succ, List.eraseIdx_cons_zero, List.eraseIdx_zero, List.tail_cons] at hI
    refine x_fin ?_
    refine retcs rfl hE rfl scal_4 (hI.seg 2 rfl) ?_
    replace hI := hI.erase 3
    replace hI := hI.erase 2
    replace hI := hI.erase 1
    exact ⟨rfl, D16, sp16, (hD10.trans hD16), hP16, hI⟩
  obtain ⟨hJ8, hfacts16⟩ := hX16
  have hJ8 : ms16 = _ := hJ8
  subst hJ8
  simp only [List.cons_append, List.nil_append] at hI
  subst hR16
  refine x_jump (s := .done) 1 hI rfl (fun h => by cases h) ?_
  clear hI w; intro w hI
  try simp only [splice, insAt, List.set_cons_succ, List.set_cons_zero, List.setIfInBounds_toArray, Value.cells, List.eraseIdx_cons_succ, List.eraseIdx_cons_zero, List.eraseIdx_zero, List.tail_cons] at hI
  refine x_exit ?_
  refine x_blk_same ?_
  refine x_then_normal ?_
  refine x_seq ?_
  refine x_region_list (by kernel_rfl) (fun _ _ h => h) ?_
  refine ql hE rfl rfl rfl (f_load rfl scal_3 (hI.seg 2 rfl) rfl) ?_; clear hE a; intro a hE
  refine ql hE rfl rfl rfl (f_load rfl scal_65 (hI.seg 4 rfl) rfl) ?_; clear hE a; intro a hE
  refine qs hE rfl rfl rfl (p_len rfl rfl Tryd.underlying65) ?_; clear hE a; intro a hE
  refine qs hE rfl rfl rfl (p_min (z := ((i16 : Nat) : Int)) rfl rfl (by omega)) ?_; clear hE a; intro a hE
  refine qs hE rfl rfl rfl (p_cmp rfl rfl (eql_y (rfl))) ?_; clear hE a; intro a hE
  refine l_step rfl (f_store (l := [_]) (ss' := _ :: _ :: _ :: _ :: _) 3 hE hI rfl rfl rfl rfl rfl sz_4 (by simp [Value.cells, Value.oneCell', pgCells, rcCells, zPg]) rfl rfl rfl ?_)
  clear hI w; intro w hI
  refine wpList_nil ?_
  refine x_then_normal ?_
  refine x_ret ?_
  refine x_mark 1 hI rfl ?_
  clear hI w; intro w hI
  replace hI := hI.erase 1
  try simp only [splice, insAt, List.set_cons_succ, List.set_cons_zero, List.setIfInBounds_toArray, Value.cells, List.eraseIdx_cons_succ, List.eraseIdx_cons_zero, List.eraseIdx_zero, List.tail_cons] at hI
  refine x_fin ?_
  refine retcs rfl hE rfl scal_4 (hI.seg 2 rfl) ?_
  replace hI := hI.erase 3
  replace hI := hI.erase 2
  replace hI := hI.erase 1
  exact ⟨rfl, D16, sp16, (hD10.trans hD16), hP16, hI⟩
theorem ScanTwice_spec {w0 w : World} {D : Sto} {ss : List Seg} (hI : Inv w0 D ss w) {ad : Nat → Addr} (hS17 : Sents D ad) {vl : Value} {l : List Bs} (hl : DR 1 BsR D vl l) :
    Calls Tryd.prog 8 #[vl] w (Ret fun r w' => r = .bool true ∧ ∃ D', Le D D' ∧ Inv w0 D' ss w') := by
  have hS := hS17.t
  obtain ⟨A1, c2, rfl, _⟩ := hl.slice
  refine enterX (N := 67) Tryd.func8 rfl rfl rfl ?_
  intro a hE
  refine x_seq ?_
  refine x_region_list (by kernel_rfl) (fun _ _ h => h) ?_
  refine l_step rfl (f_alloc (cs := #[.bool false]) hE hI rfl rfl rfl zer_4 rfl ?_)
  clear hI hE a w; intro a b3 w hE hI
  refine wpList_nil ?_
  refine x_then_normal ?_
  refine x_seq ?_
  refine x_region_list (by kernel_rfl) (fun _ _ h => h) ?_
  refine l_step rfl (o_call hE rfl rfl rfl rfl ent_38 (first22_spec hI hS) ?_)
  clear hI hE a
  rintro r w ⟨D4, hD5, hI, rfl⟩ a hE
  refine qa hE rfl rfl rfl rfl rfl ?_; clear hE a; intro a hE
  refine wpList_nil ?_
  refine x_then_normal ?_
  refine x_seq ?_
  refine x_seq ?_
  refine x_region_list (by kernel_rfl) (fun _ _ h => h) ?_
  refine qm hE rfl rfl rfl rfl rfl ?_; clear hE a; intro a hE
  refine qs hE rfl rfl rfl (p_not rfl) ?_; clear hE a; intro a hE
  refine wpList_nil ?_
  refine x_then_normal ?_
  refine x_false hE rfl ?_
  refine x_skip ?_
  refine x_then_normal ?_
  refine x_seq ?_
  refine x_seq ?_
  refine x_region_list (by kernel_rfl) (fun _ _ h => h) ?_
  refine qm hE rfl rfl rfl rfl rfl ?_; clear hE a; intro a hE
  refine l_step rfl (o_call hE rfl rfl rfl rfl ent_31 (Keys_spec (l := l) (most := 30) (long := 32) hI (DR.mono BsR.keeps hl hD5) (by omega)) ?_)
  clear hI hE a
  rintro r w ⟨rfl, hI⟩ a hE
  obtain ⟨bf6, hbf7⟩ : ∃ b, decide ((l.length : Int) ≤ 30 ∧ ∀ k ∈ l, (k.length : Int) ≤ 32) = b := ⟨_, rfl⟩
  rw [hbf7] at hE
  replace hbf7 : bf6 = true ↔ ((l.length : Int) ≤ 30 ∧ ∀ k ∈ l, (k.length : Int) ≤ 32) := by rw [← hbf7]; exact decide_eq_true_iff
  rcases Bool.eq_false_or_eq_true bf6 with rfl | rfl
  · replace hbf7 := iff_t hbf7
    refine qs hE rfl rfl rfl (p_not rfl) ?_; clear hE a; intro a hE
    refine qm hE rfl rfl rfl rfl rfl ?_; clear hE a; intro a hE
    refine l_go hE rfl (o_pure hE rfl rfl (p_move rfl).run ?_); clear hE a; intro a hE
    refine l_go hE rfl (o_pure hE rfl rfl (p_not rfl).run ?_); clear hE a; intro a hE
    refine qs hE rfl rfl rfl (p_pick (b := false) rfl rfl) ?_; clear hE a; intro a hE
    refine wpList_nil ?_
    refine x_then_normal ?_
    refine x_false hE rfl ?_
    refine x_skip ?_
    refine x_then_normal ?_
    refine x_seq ?_
    refine x_region_list (by kernel_rfl) (fun _ _ h => h) ?_
    refine qm hE rfl rfl rfl rfl rfl ?_; clear hE a; intro a hE
    have hll := (hbf7).1
    have hmf := made_fine l l.length
    have hkl := hmf.len
    have hents : ∀ e ∈ madeKv l l.length, e.1.length ≤ 32 ∧ e.2.length = 1 := fun e he => ⟨(hmf.ents e he).1.2, (hmf.ents e he).2⟩
    refine l_step rfl (o_call hE rfl rfl rfl rfl ent_39 (made_spec (l := l) hI (hS.mono hD5) (DR.mono BsR.keeps hl hD5) (by omega)) ?_)
    clear hI hE a
    rintro r w ⟨D8, q9, vh10, sp11, P12, hD13, rfl, hP14, hO15, hH16, hI⟩ a hE
    obtain ⟨A17, c18, rfl, _⟩ := hH16.slice
    refine qm hE rfl rfl rfl rfl rfl ?_; clear hE a; intro a hE
    refine qs hE rfl rfl rfl (f_extract rfl rfl) ?_; clear hE a; intro a hE
    refine qs hE rfl rfl rfl (f_extract rfl rfl) ?_; clear hE a; intro a hE
    refine l_step rfl (f_alloc (cs := #[.pointer none]) hE hI rfl rfl rfl zer_52 rfl ?_)
    clear hI hE a w; intro a b19 w hE hI
    refine l_step rfl (f_alloc (cs := #[.slice none 0 0]) hE hI rfl rfl rfl zer_65 rfl ?_)
    clear hI hE a w; intro a b20 w hE hI
    refine l_step rfl (f_store (l := [_]) (ss' := _ :: _ :: _) 1 hE hI rfl rfl rfl rfl rfl sz_52 (by simp [Value.cells, Value.oneCell', pgCells, rcCells, zPg]) rfl rfl rfl ?_)
    clear hI w; intro w hI
    refine l_step rfl (f_store (l := [_]) (ss' := _ :: _) 0 hE hI rfl rfl rfl rfl rfl sz_65 (by simp [Value.cells, Value.oneCell', pgCells, rcCells, zPg]) rfl rfl rfl ?_)
    clear hI w; intro w hI
    refine wpList_nil ?_
    refine x_then_normal ?_
    refine x_seq ?_
    refine x_seq ?_
    refine x_region_list (by kernel_rfl) (fun _ _ h => h) ?_
    refine ql hE rfl rfl rfl (f_load rfl scal_52 (hI.seg 1 rfl) rfl) ?_; clear hE a; intro a hE
    refine qs hE rfl rfl rfl (p_eq rfl rfl (g_none rfl) (e_ptrNil Tryd.underlying52 rfl) rfl rfl) ?_; clear hE a; intro a hE
    refine wpList_nil ?_
    refine x_then_normal ?_
    refine x_false hE rfl ?_
    refine x_skip ?_
    refine x_then_normal ?_
    refine x_seq ?_
    refine x_region_list (by kernel_rfl) (fun _ _ h => h) ?_
    refine l_step rfl (f_alloc (cs := #[.int .i64 0]) hE hI rfl rfl rfl zer_3 rfl ?_)
    clear hI hE a w; intro a b21 w hE hI
    refine l_step rfl (f_store (l := [_]) (ss' := _ :: _) 0 hE hI rfl rfl rfl rfl rfl sz_3 (by simp [Value.cells, Value.oneCell', pgCells, rcCells, zPg]) rfl rfl rfl ?_)
    clear hI w; intro w hI
    refine wpList_nil ?_
    refine x_then_normal ?_
    refine x_seq ?_
    refine x_seq ?_
    refine x_region_list (by kernel_rfl) (fun _ _ h => h) ?_
    refine ql hE rfl rfl rfl (f_load rfl scal_52 (hI.seg 2 rfl) rfl) ?_; clear hE a; intro a hE
    refine l_step rfl (o_call hE rfl rfl rfl rfl ent_41 (Range_spec (frm := []) (to := []) hI (hS.mono (hD5.trans hD13)) hO15 (RB.nil _) (RB.nil _) (by simp) (by simp) (from_nil (madeKv l l.length))) ?_)
    clear hI hE a
    rintro r w ⟨D22, hD24, hq25, hI⟩ a hE
    obtain ⟨fq26, capq27, rfl, hfq28, hcall29⟩ := hq25
    refine wpList_nil ?_
    refine x_then_normal ?_
    refine x_block ?_
    refine x_range hE hI rfl hfq28 ?_
    clear hI w; intro fn30 lp30 kd30 tm30 rr30 w hT30 hR30 hI
    replace hI := hI.bring 5
    refine (hcall29 _ _ _ [_, _, _, _, _, _] _ sp11 lp30 (fun i30 D30 ms30 => ms30 = [[(lp30, .loop rr30)], [(kd30, .deferred (some []))], [(b21, .cells #[.int .i64 (i30 : Nat)] 3 (0, 0))], [(b20, .cells #[.slice A17 ((madeKv l (l).length)).length c18] 65 (0, 0))], [(b19, .cells #[.pointer (some ⟨q9, 0, none⟩)] 52 (0, 0))], [(b3, .cells #[.bool false] 4 (0, 0))]]) (fun _ _ _ => False) (Le.refl _) hI (hP14.mono hD24) ⟨fun _ _ _ _ _ h => h, ?_⟩ rfl).mono ?_
    · clear hI hE a w
      intro i30 e30 D30 ms30 sp30 rest30 w vk30 vv30 he30 htl30 hD30 hJ30 hP30 hk30 hv30 hI
      have hJ8 : ms30 = _ := hJ30
      subst hJ8
      simp only [List.cons_append, List.nil_append] at hI
      subst hR30
      obtain ⟨Ak30, ck30, rfl, _⟩ := hk30.slice
      obtain ⟨Av30, cv30, rfl, _⟩ := hv30.slice
      have hlt30 := (List.getElem?_eq_some_iff.1 he30).1
      refine ⟨_, hI.seg 1 rfl, rfl, x_round2 hT30 rfl rfl rfl rfl ?_⟩
      intro a hE
      clear hT30
      refine x_seq ?_
      refine x_region_list (by kernel_rfl) (fun _ _ h => h) ?_
      refine l_step rfl (f_alloc (cs := #[.slice none 0 0, .slice none 0 0]) hE hI rfl rfl rfl zer_69 rfl ?_)
      clear hI hE a w; intro a b31 w hE hI
      refine l_step rfl (f_store (l := [_, _]) (ss' := _ :: _) 0 hE hI rfl rfl rfl rfl rfl sz_69 (by simp [Value.cells, Value.oneCell', pgCells, rcCells, zPg]) rfl rfl rfl ?_)
      clear hI w; intro w hI
      refine wpList_nil ?_
      refine x_then_normal ?_
      refine x_region_list (by kernel_rfl) (fun _ _ h => h) ?_
      refine qa hE rfl rfl rfl rfl rfl ?_; clear hE a; intro a hE
      refine wpList_nil ?_
      refine x_begin 2 hI rfl rfl ?_
      clear hI w; intro w hI
      try simp only [splice, insAt, List.set_cons_succ, List.set_cons_zero, List.setIfInBounds_toArray, Value.cells, List.eraseIdx_cons_succ, List.eraseIdx_cons_zero, List.eraseIdx_zero, List.tail_cons] at hI
      refine x_block ?_
      refine x_seq ?_
      refine x_seq ?_
      refine x_start [] [] (by kernel_rfl) (by kernel_rfl) (fun _ _ h => h) hI rfl rfl ?_
      clear hI w; intro w hI
      refine d_pure 0 hE rfl (by kernel_rfl) (by kernel_rfl) (by kernel_rfl) rfl (fun _ _ _ h => h) rfl rfl rfl (p_move rfl) (fun _ => hI) (listed' := #[true, false, false, false, false, false, false, false, false, false, false, false, false, false, false, false, false]) rfl ?_; clear hE a; intro a hE
      refine d_pure 1 hE rfl (by kernel_rfl) (by kernel_rfl) (by kernel_rfl) rfl (fun _ _ _ h => h) rfl rfl rfl (p_ifaceNil Tryd.underlying25 rfl rfl rfl) (fun _ => hI) (listed' := #[true, true, false, false, false, false, false, false, false, false, false, false, false, false, false, false, false]) rfl ?_; clear hE a; intro a hE
      refine d_pure 2 hE rfl (by kernel_rfl) (by kernel_rfl) (by kernel_rfl) rfl (fun _ _ _ h => h) rfl rfl rfl (p_move rfl) (fun _ => hI) (listed' := #[true, true, true, false, false, false, false, false, false, false, false, false, false, false, false, false, false]) rfl ?_; clear hE a; intro a hE
      refine d_load 3 hE rfl (by kernel_rfl) (by kernel_rfl) (by kernel_rfl) (by kernel_rfl) (by kernel_rfl) rfl rfl (fun _ _ _ h => h) rfl rfl rfl (fun w hS => f_load rfl scal_3 (Inv.seg 4 hS rfl) rfl) (hI) (listed' := #[true, true, true, true, false, false, false, false, false, false, false, false, false, false, false, false, false]) rfl ?_; clear hE a; intro a hE
      refine d_load 4 hE rfl (by kernel_rfl) (by kernel_rfl) (by kernel_rfl) (by kernel_rfl) (by kernel_rfl) rfl rfl (fun _ _ _ h => h) rfl rfl rfl (fun w hS => f_load rfl scal_65 (Inv.seg 5 hS rfl) rfl) (hI) (listed' := #[true, true, true, true, true, false, false, false, false, false, false, false, false, false, false, false, false]) rfl ?_; clear hE a; intro a hE
      refine d_pure 5 hE rfl (by kernel_rfl) (by kernel_rfl) (by kernel_rfl) rfl (fun _ _ _ h => h) rfl rfl rfl (p_len rfl rfl Tryd.underlying65) (fun _ => hI) (listed' := #[true, true, true, true, true, true, false, false, false, false, false, false, false, false, false, false, false]) rfl ?_; clear hE a; intro a hE
      refine d_pure 6 hE rfl (by kernel_rfl) (by kernel_rfl) (by kernel_rfl) rfl (fun _ _ _ h => h) rfl rfl rfl (p_cmp rfl rfl (geq_n (by omega))) (fun _ => hI) (listed' := #[true, true, true, true, true, true, true, false, false, false, false, false, false, false, false, false, false]) rfl ?_; clear hE a; intro a hE
      refine d_pure 7 hE rfl (by kernel_rfl) (by kernel_rfl) (by kernel_rfl) rfl (fun _ _ _ h => h) rfl rfl rfl (p_pick (b := false) rfl rfl) (fun _ => hI) (listed' := #[true, true, true, true, true, true, true, true, false, false, false, false, false, false, false, false, false]) rfl ?_; clear hE a; intro a hE
      refine d_pure 8 hE rfl (by kernel_rfl) (by kernel_rfl) (by kernel_rfl) rfl (fun _ _ _ h => h) rfl rfl rfl (p_move rfl) (fun _ => hI) (listed' := #[true, true, true, true, true, true, true, true, true, false, false, false, false, false, false, false, false]) rfl ?_; clear hE a; intro a hE
      refine d_load 9 hE rfl (by kernel_rfl) (by kernel_rfl) (by kernel_rfl) (by kernel_rfl) (by kernel_rfl) rfl rfl (fun _ _ _ h => h) rfl rfl rfl (fun w hS => f_loadA (vs := [_, _]) rfl agg_69 (Inv.seg 0 hS rfl) rfl rfl) (hI) (listed' := #[true, true, true, true, true, true, true, true, true, true, false, false, false, false, false, false, false]) rfl ?_; clear hE a; intro a hE
      refine d_load 10 hE rfl (by kernel_rfl) (by kernel_rfl) (by kernel_rfl) (by kernel_rfl) (by kernel_rfl) rfl rfl (fun _ _ _ h => h) rfl rfl rfl (fun w hS => f_load rfl scal_65 (Inv.seg 5 hS rfl) rfl) (hI) (listed' := #[true, true, true, true, true, true, true, true, true, true, true, false, false, false, false, false, false]) rfl ?_; clear hE a; intro a hE
      refine d_load 11 hE rfl (by kernel_rfl) (by kernel_rfl) (by kernel_rfl) (by kernel_rfl) (by kernel_rfl) rfl rfl (fun _ _ _ h => h) rfl rfl rfl (fun w hS => f_load rfl scal_3 (Inv.seg 4 hS rfl) rfl) (hI) (listed' := #[true, true, true, true, true, true, true, true, true, true, true, true, false, false, false, false, false]) rfl ?_; clear hE a; intro a hE
      obtain ⟨x_32, hx_32⟩ : ∃ z9, ((madeKv l (l).length))[i30]? = some z9 := ⟨_, List.getElem?_eq_getElem (by omega)⟩
      obtain ⟨b_32, o_32, cs_32, T_32, fr_32, rfl, hb_32, hat_32⟩ := hH16.at_ (by intro h0; rw [h0] at hx_32; simp at hx_32)
      obtain ⟨vs_32, hl_32, ⟨k_32, v_32, rfl, hk_32, hv_32, hok_32⟩, hex_32, hsz_32, hce_32⟩ := hat_32.extract hx_32 (by omega)
      obtain ⟨A33, c34, rfl, _⟩ := hk_32.slice
      obtain ⟨A35, c36, rfl, _⟩ := hv_32.slice
      refine d_pure 12 hE rfl (by kernel_rfl) (by kernel_rfl) (by kernel_rfl) rfl (fun _ _ _ h => h) rfl rfl rfl (p_indexAddr (m := o_32 + i30 * 2) rfl rfl Tryd.underlying65 sz_69 (by omega) (by omega) (by simp)) (fun _ => hI) (listed' := #[true, true, true, true, true, true, true, true, true, true, true, true, true, false, false, false, false]) rfl ?_; clear hE a; intro a hE
      refine d_load 13 hE rfl (by kernel_rfl) (by kernel_rfl) (by kernel_rfl) (by kernel_rfl) (by kernel_rfl) rfl rfl (fun _ _ _ h => h) rfl rfl rfl (fun w hS => r_loadA rfl agg_69 (Inv.data hS _ _ ((hD24.trans hD30) _ _ (hb_32))) hsz_32 hex_32) (hI) (listed' := #[true, true, true, true, true, true, true, true, true, true, true, true, true, true, false, false, false]) rfl ?_; clear hE a; intro a hE
      refine d_one 14 hE rfl (by kernel_rfl) rfl (listed' := #[true, true, true, true, true, true, true, true, true, true, true, true, true, true, true, false, false]) rfl ?_
      have heqhse37 : e30 = x_32 := (by have h9 := hx_32; have h8 := he30; rw [Nat.zero_add, h9] at h8; injection h8 with h8; exact h8.symm)
      have hlehse37 : (e30).1.length ≤ 32 ∧ (e30).2.length = 1 := hents _ (List.mem_of_getElem? he30)
      refine o_call hE rfl rfl rfl rfl ent_42 (SameEntry_spec (e1 := e30) (e2 := x_32) hI hk30 hv30 (hk_32.mono (hD24.trans hD30)) (hv_32.mono (hD24.trans hD30)) (by omega) (by omega)) ?_
      clear hI hE a
      rintro r w h a hE; rcases h with ⟨rfl, hse37, hI⟩ | ⟨rfl, hse37, hI⟩
      · skip
        refine ⟨fun _ => hI, ?_⟩
        refine d_pure 15 hE rfl (by kernel_rfl) (by kernel_rfl) (by kernel_rfl) rfl (fun _ _ _ h => h) rfl rfl rfl (p_not rfl) (fun _ => hI) (listed' := #[true, true, true, true, true, true, true, true, true, true, true, true, true, true, true, true, false]) rfl ?_; clear hE a; intro a hE
        refine d_pure 16 hE rfl (by kernel_rfl) (by kernel_rfl) (by kernel_rfl) rfl (fun _ _ _ h => h) rfl rfl rfl (p_pick (b := false) rfl rfl) (fun _ => hI) (listed' := #[true, true, true, true, true, true, true, true, true, true, true, true, true, true, true, true, true]) rfl ?_; clear hE a; intro a hE
        refine d_done (by kernel_rfl) ?_
        refine x_then_normal ?_
        refine x_false hE rfl ?_
        refine x_skip ?_
        refine x_then_normal ?_
        refine x_seq ?_
        refine x_seq ?_
        refine x_start [] [1] (by kernel_rfl) (by kernel_rfl) (fun _ _ h => h) hI rfl rfl ?_
        clear hI w; intro w hI
        refine d_load 0 hE rfl (by kernel_rfl) (by kernel_rfl) (by kernel_rfl) (by kernel_rfl) (by kernel_rfl) rfl rfl (fun _ _ _ h => h) rfl rfl rfl (fun w hS => f_load rfl scal_52 (Inv.seg 5 hS rfl) rfl) ((hI.dropS [1])) (listed' := #[true, false, false, false, false, false, false, false]) rfl ?_; clear hE a; intro a hE
        refine d_load 1 hE rfl (by kernel_rfl) (by kernel_rfl) (by kernel_rfl) (by kernel_rfl) (by kernel_rfl) rfl rfl (fun _ _ _ h => h) rfl rfl rfl (fun w hS => f_load rfl scal_65 (Inv.seg 4 hS rfl) rfl) ((hI.dropS [1])) (listed' := #[true, true, false, false, false, false, false, false]) rfl ?_; clear hE a; intro a hE
        refine d_load 2 hE rfl (by kernel_rfl) (by kernel_rfl) (by kernel_rfl) (by kernel_rfl) (by kernel_rfl) rfl rfl (fun _ _ _ h => h) rfl rfl rfl (fun w hS => f_load rfl scal_3 (Inv.seg 3 hS rfl) rfl) ((hI.dropS [1])) (listed' := #[true, true, true, false, false, false, false, false]) rfl ?_; clear hE a; intro a hE
        have hc38 := DR.cut (l := i30) (h := ((madeKv l (l).length)).length) hH16 (by omega) (by omega)
        refine d_pure 3 hE rfl (by kernel_rfl) (by kernel_rfl) (by kernel_rfl) rfl (fun _ _ _ h => h) rfl rfl rfl (p_sliceL (l := i30) (h := ((madeKv l (l).length)).length) rfl Tryd.underlying65 sz_69 (lo_at rfl (by omega) (by omega)) rfl (by omega) (by omega)) (fun _ => (hI.dropS [1])) (listed' := #[true, true, true, true, false, false, false, false]) rfl ?_; clear hE a; intro a hE
        refine d_pure 4 hE rfl (by kernel_rfl) (by kernel_rfl) (by kernel_rfl) rfl (fun _ _ _ h => h) rfl rfl rfl (p_fieldAddr (m := 0) rfl fo_69_0 rfl) (fun _ => (hI.dropS [1])) (listed' := #[true, true, true, true, true, false, false, false]) rfl ?_; clear hE a; intro a hE
        refine d_load 5 hE rfl (by kernel_rfl) (by kernel_rfl) (by kernel_rfl) (by kernel_rfl) (by kernel_rfl) rfl rfl (fun _ _ _ h => h) rfl rfl rfl (fun w hS => f_load rfl scal_22 (Inv.seg 0 hS rfl) rfl) ((hI.dropS [1])) (listed' := #[true, true, true, true, true, true, false, false]) rfl ?_; clear hE a; intro a hE
        refine d_one 6 hE rfl (by kernel_rfl) rfl (listed' := #[true, true, true, true, true, true, true, false]) rfl ?_
        have hey30 := he30
        rw [Nat.zero_add] at hey30
        refine o_call hE rfl rfl rfl rfl ent_43 (three_spec (kv := madeKv l l.length) (s := i30) (hI.bring 1) (hS.mono (((hD5.trans hD13).trans hD24).trans hD30)) hP30 hO15 (fun e he => (hents e he).2) (DR.at_eq (DR.mono EnR.keeps hc38 (hD24.trans hD30)) (List.take_of_length_le (by simp))) (by omega) hk30 (by have := hents _ (List.mem_of_getElem? hey30); omega) (from_at hO15.sorted hey30)) ?_
        clear hI hE a
        rintro r w ⟨rfl, D41, sp42, hD43, hP44, hI⟩ a hE
        replace hI := hI.put_back 1
        try simp only [splice, insAt, List.set_cons_succ, List.set_cons_zero, List.setIfInBounds_toArray, Value.cells, List.eraseIdx_cons_succ, List.eraseIdx_cons_zero, List.eraseIdx_zero, List.tail_cons] at hI
        refine ⟨fun _ => (Inv.weaken (hI.dropS [1]) hD43), ?_⟩
        refine d_pure 7 hE rfl (by kernel_rfl) (by kernel_rfl) (by kernel_rfl) rfl (fun _ _ _ h => h) rfl rfl rfl (p_not rfl) (fun _ => (Inv.weaken (hI.dropS [1]) hD43)) (listed' := #[true, true, true, true, true, true, true, true]) rfl ?_; clear hE a; intro a hE
        refine d_done (by kernel_rfl) ?_
        refine x_then_normal ?_
        refine x_false hE rfl ?_
        refine x_skip ?_
        refine x_then_normal ?_
        refine x_region_list (by kernel_rfl) (fun _ _ h => h) ?_
        refine ql hE rfl rfl rfl (f_load rfl scal_3 (hI.seg 4 rfl) rfl) ?_; clear hE a; intro a hE
        refine qs hE rfl rfl rfl (p_arith (z := ((i30 + 1 : Nat) : Int)) rfl rfl (add_z (by omega) (by omega) (by omega))) ?_; clear hE a; intro a hE
        refine l_step rfl (f_store (l := [_]) (ss' := _ :: _ :: _ :: _ :: _ :: _) 4 hE hI rfl rfl rfl rfl rfl sz_3 (by simp [Value.cells, Value.oneCell', pgCells, rcCells, zPg]) rfl rfl rfl ?_)
        clear hI w; intro w hI
        refine wpList_nil ?_
        refine x_blk_normal ?_
        refine x_endN 2 hI rfl ?_
        clear hI w; intro w hI
        try simp only [splice, insAt, List.set_cons_succ, List.set_cons_zero, List.setIfInBounds_toArray, Value.cells, List.eraseIdx_cons_succ, List.eraseIdx_cons_zero, List.eraseIdx_zero, List.tail_cons] at hI
        replace hI := hI.erase 0
        replace hI := hI.bring 6
        replace hI := hI.bring 6
        replace hI := hI.bring 6
        replace hI := hI.bring 6
        replace hI := hI.bring 6
        replace hI := hI.bring 6
        replace hI := hI.bring 6
        exact ⟨true, D41, _, sp42, rfl, hD43, (fun _ => rfl), (fun h => by cases h), hP44, hI⟩
      exfalso
      exact hse37 ⟨by rw [heqhse37], by rw [heqhse37]⟩
    rintro _ w ⟨_, rfl, i30, D30, ms30, sp30, hD30, hor30, hP30, hI⟩
    rcases hor30 with ⟨hJ30, hdone30⟩ | hX30
    · skip
      have hJ8 : ms30 = _ := hJ30
      subst hJ8
      simp only [List.cons_append, List.nil_append] at hI
      subst hR30
      refine x_done (s := .ready) 1 hI rfl (fun h => by cases h) ?_
      clear hI w; intro w hI
      try simp only [splice, insAt, List.set_cons_succ, List.set_cons_zero, List.setIfInBounds_toArray, Value.cells, List.eraseIdx_cons_succ, List.eraseIdx_cons_zero, List.eraseIdx_zero, List.tail_cons] at hI
      refine x_blk_normal ?_
      refine x_then_normal ?_
      refine x_seq ?_
      have hn9 := done_len (Nat.zero_le _) hdone30
      refine x_region_list (by kernel_rfl) (fun _ _ h => h) ?_
      refine ql hE rfl rfl rfl (f_load rfl scal_3 (hI.seg 2 rfl) rfl) ?_; clear hE a; intro a hE
      refine ql hE rfl rfl rfl (f_load rfl scal_65 (hI.seg 3 rfl) rfl) ?_; clear hE a; intro a hE
      refine qs hE rfl rfl rfl (p_len rfl rfl Tryd.underlying65) ?_; clear hE a; intro a hE
      refine qs hE rfl rfl rfl (p_cmp rfl rfl (eql_y (by omega))) ?_; clear hE a; intro a hE
      refine qm hE rfl rfl rfl rfl rfl ?_; clear hE a; intro a hE
      refine l_go hE rfl (o_call hE rfl rfl rfl rfl ent_22 (Is_spec (f := .none) hI (hS17.mono (((hD5.trans hD13).trans hD24).trans hD30)) rfl trivial 0) ?_)
      clear hI hE a
      rintro r w ⟨rfl, hI⟩ a hE
      refine qs hE rfl rfl rfl (p_pick (b := true) rfl rfl) ?_; clear hE a; intro a hE
      refine qm hE rfl rfl rfl rfl rfl ?_; clear hE a; intro a hE
      refine qs hE rfl rfl rfl (p_pick (b := true) rfl rfl) ?_; clear hE a; intro a hE
      refine l_step rfl (f_store (l := [_]) (ss' := _ :: _ :: _ :: _ :: _ :: _ :: _) 5 hE hI rfl rfl rfl rfl rfl sz_4 (by simp [Value.cells, Value.oneCell', pgCells, rcCells, zPg]) rfl rfl rfl ?_)
      clear hI w; intro w hI
      refine wpList_nil ?_
      refine x_then_normal ?_
      refine x_ret ?_
      refine x_mark 1 hI rfl ?_
      clear hI w; intro w hI
      replace hI := hI.erase 1
      try simp only [splice, insAt, List.set_cons_succ, List.set_cons_zero, List.setIfInBounds_toArray, Value.cells, List.eraseIdx_cons_succ, List.eraseIdx_cons_zero, List.eraseIdx_zero, List.tail_cons] at hI
      refine x_fin ?_
      refine retcs rfl hE rfl scal_4 (hI.seg 4 rfl) ?_
      exact ⟨rfl, _, (((hD5.trans hD13).trans hD24).trans hD30), hI.drop.drop.drop.drop.drop⟩
    exact hX30.elim
  replace hbf7 := iff_f hbf7
  refine qs hE rfl rfl rfl (p_not rfl) ?_; clear hE a; intro a hE
  refine qm hE rfl rfl rfl rfl rfl ?_; clear hE a; intro a hE
  refine l_skip hE rfl rfl rfl ?_; clear hE a; intro a hE
  refine l_skip hE rfl rfl rfl ?_; clear hE a; intro a hE
  refine qs hE rfl rfl rfl (p_pick (b := true) rfl rfl) ?_; clear hE a; intro a hE
  refine wpList_nil ?_
  refine x_then_normal ?_
  refine x_true hE rfl ?_
  refine x_seq ?_
  refine x_region_list (by kernel_rfl) (fun _ _ h => h) ?_
  refine qm hE rfl rfl rfl rfl rfl ?_; clear hE a; intro a hE
  refine l_step rfl (f_store (l := [_]) (ss' := _ :: _) 0 hE hI rfl rfl rfl rfl rfl sz_4 (by simp [Value.cells, Value.oneCell', pgCells, rcCells, zPg]) rfl rfl rfl ?_)
  clear hI w; intro w hI
  refine wpList_nil ?_
  refine x_then_normal ?_
  refine x_ret ?_
  refine x_then_ret ?_
  refine x_fin ?_
  refine retcs rfl hE rfl scal_4 (hI.seg 0 rfl) ?_
  exact ⟨rfl, _, hD5, hI.drop⟩
end Go.Proofs.YtbogbnkckofpdaaDoor.B
