/- What functions of the program compute, each function once: steps over the model, and the plain law of it. -/
import Derived.Test.YtbogbnkckofpdaaDoorTUndoRead
namespace Go.Proofs.YtbogbnkckofpdaaDoor.B
open Go Go.Proofs
set_option linter.unusedVariables false
set_option linter.unusedSimpArgs false
set_option maxRecDepth 20000
set_option maxHeartbeats 8000000
namespace FTUndoRead2
theorem ent_15 : enters Tryd.prog 15 = true := by kernel_rfl
theorem ent_16 : enters Tryd.prog 16 = true := by kernel_rfl
theorem ent_55 : enters Tryd.prog 55 = true := by kernel_rfl
theorem ent_56 : enters Tryd.prog 56 = true := by kernel_rfl
theorem fo_34_0 : fieldOff Tryd.prog 34 0 = some 0 := by kernel_rfl
theorem fo_34_1 : fieldOff Tryd.prog 34 1 = some 1 := by kernel_rfl
theorem fo_34_2 : fieldOff Tryd.prog 34 2 = some 2 := by kernel_rfl
theorem fo_34_3 : fieldOff Tryd.prog 34 3 = some 3 := by kernel_rfl
theorem fo_34_4 : fieldOff Tryd.prog 34 4 = some 4 := by kernel_rfl
theorem scal_2 : isScal Tryd.prog 2 = true := by kernel_rfl
theorem scal_22 : isScal Tryd.prog 22 = true := by kernel_rfl
theorem scal_25 : isScal Tryd.prog 25 = true := by kernel_rfl
theorem scal_3 : isScal Tryd.prog 3 = true := by kernel_rfl
theorem scal_4 : isScal Tryd.prog 4 = true := by kernel_rfl
end FTUndoRead2
open FTUndoRead2
theorem Inv.drop_at {w0 w : World} {D : Sto} {ss : List Seg} {s : Seg} (i : Nat) (h : Inv w0 D (s :: ss) w) : Inv w0 D (s :: ss.eraseIdx (i - 1)) w := by
  have := (h.put_back 0).erase 0
  have h2 := h.perm (ss' := ss ++ [s]) (by simp [List.flatten_append]; exact List.perm_append_comm)
  have h3 : Inv w0 D (s :: ss.eraseIdx (i - 1)) w := by
    cases hi : ss[i - 1]? with
    | none => rw [List.eraseIdx_of_length_le (List.getElem?_eq_none_iff.1 hi)]; exact h
    | some q =>
      have hp := (erase_perm (i - 1) ss hi).flatten
      have h4 : Inv w0 D (q :: s :: ss.eraseIdx (i - 1)) w := h.perm (by
        simp only [List.flatten_cons] at hp ⊢
        refine List.Perm.trans ?_ (List.Perm.append_left s hp)
        rw [← List.append_assoc, ← List.append_assoc]
        exact List.Perm.append_right _ List.perm_append_comm)
      exact h4.drop
  exact h3
theorem UBytes_spec {w0 w : World} {D : Sto} {ss : List Seg} (hI : Inv w0 D ss w) {ad : Nat → Addr} (g105 : GlobIs D 0 (errV ad 105)) (tx n : Int) {vk vv : Value} {key value : List Nat} (had : Bool) (hk : RB D vk key) (hv : RB D vv value) (hm : value.length ≤ 140737488000000) :
    Calls Tryd.prog 21 #[.agg #[.int .i64 tx, .int .i64 n, vk, .bool had, vv]] w (Ret fun r w' => ∃ D', Le D D' ∧ ((∃ v s, (⟨tx, n, key, had, value⟩ : Ent).Ok ∧ r = .tuple #[v, .nilIface] ∧ Inv w0 D' (s :: ss) w' ∧ OB v (⟨tx, n, key, had, value⟩ : Ent).enc s) ∨ (¬ (⟨tx, n, key, had, value⟩ : Ent).Ok ∧ r = .tuple #[.slice none 0 0, errV ad 105] ∧ Inv w0 D' ss w'))) := by
  obtain ⟨Ak, ck, rfl, _⟩ := hk.slice
  obtain ⟨Av, cv, rfl, _⟩ := hv.slice
  have hhad : had = true ↔ had = true := Iff.rfl
  refine enter (N := 55) Tryd.func21 rfl rfl rfl ?_
  intro a hE
  refine wp_seq ?_
  refine wp_region_list ?_   -- region 0
  refine l_step rfl (f_box (cs := #[_, _, _, _, _]) hE hI rfl rfl rfl rfl rfl ?_)
  clear hI hE a w; intro a b1 w hE hI
  refine l_step rfl (o_pure hE rfl rfl (p_assign rfl).run ?_); clear hE a; intro a hE
  refine l_step rfl (o_pure hE rfl rfl (p_assign rfl).run ?_); clear hE a; intro a hE
  refine wpList_nil ?_
  refine then_normal ?_
  refine wp_seq ?_
  refine wp_seq ?_
  refine wp_region_list ?_   -- region 1
  refine l_step rfl (o_pure hE rfl rfl (p_fieldAddr (m := 0) rfl fo_34_0 rfl).run ?_); clear hE a; intro a hE
  refine l_step rfl (o_pure hE rfl rfl (f_load rfl scal_2 (hI.seg 0 rfl) rfl) ?_); clear hE a; intro a hE
  refine l_step rfl (o_pure hE rfl rfl (p_fieldAddr (m := 1) rfl fo_34_1 rfl).run ?_); clear hE a; intro a hE
  refine l_step rfl (o_pure hE rfl rfl (f_load rfl scal_3 (hI.seg 0 rfl) rfl) ?_); clear hE a; intro a hE
  refine l_step rfl (o_call hE rfl rfl rfl rfl ent_15 (Key_spec hI g105 tx n) ?_)
  clear hI hE a
  rintro r w h a hE; rcases h with ⟨v4, D2, h1, rfl, hD3, hI, hv5⟩ | ⟨h1, rfl, hI⟩
  · skip
    obtain ⟨A6, c7, rfl, _⟩ := hv5.slice
    refine l_step rfl (o_pure hE rfl rfl (p_move rfl).run ?_); clear hE a; intro a hE
    refine l_step rfl (o_pure hE rfl rfl (f_extract rfl rfl).run ?_); clear hE a; intro a hE
    refine l_step rfl (o_pure hE rfl rfl (f_extract rfl rfl).run ?_); clear hE a; intro a hE
    refine l_step rfl (o_pure hE rfl rfl (p_assign rfl).run ?_); clear hE a; intro a hE
    refine l_step rfl (o_pure hE rfl rfl (p_assign rfl).run ?_); clear hE a; intro a hE
    refine wpList_nil ?_
    refine then_normal ?_
    refine wp_seq ?_
    refine wp_region_list ?_   -- region 2
    refine l_step rfl (o_pure hE rfl rfl (p_move rfl).run ?_); clear hE a; intro a hE
    refine l_step rfl (o_pure hE rfl rfl (p_ifaceNil Tryd.underlying25 rfl rfl rfl).run ?_); clear hE a; intro a hE
    refine wpList_nil ?_
    refine then_normal ?_
    refine c_false hE rfl ?_
    refine wp_skip ?_
    refine then_normal ?_
    refine wp_seq ?_
    refine wp_seq ?_
    refine wp_region_list ?_   -- region 4
    refine l_step rfl (o_pure hE rfl rfl (p_fieldAddr (m := 2) rfl fo_34_2 rfl).run ?_); clear hE a; intro a hE
    refine l_step rfl (o_pure hE rfl rfl (f_load rfl scal_22 (hI.seg 0 rfl) rfl) ?_); clear hE a; intro a hE
    refine l_step rfl (o_call hE rfl rfl rfl rfl ent_16 (UserKey_spec hI (g105.mono hD3) (hk.mono hD3)) ?_)
    clear hI hE a
    rintro r w h a hE; rcases h with ⟨v10, D8, h2, h2_, rfl, hD9, hI, hv11⟩ | ⟨h2, rfl, hI⟩
    · skip
      obtain ⟨A12, c13, rfl, _⟩ := hv11.slice
      refine l_step rfl (o_pure hE rfl rfl (p_move rfl).run ?_); clear hE a; intro a hE
      refine l_step rfl (o_pure hE rfl rfl (f_extract rfl rfl).run ?_); clear hE a; intro a hE
      refine l_step rfl (o_pure hE rfl rfl (f_extract rfl rfl).run ?_); clear hE a; intro a hE
      refine l_step rfl (o_pure hE rfl rfl (p_assign rfl).run ?_); clear hE a; intro a hE
      refine l_step rfl (o_pure hE rfl rfl (p_assign rfl).run ?_); clear hE a; intro a hE
      refine wpList_nil ?_
      refine then_normal ?_
      refine wp_seq ?_
      refine wp_region_list ?_   -- region 5
      refine l_step rfl (o_pure hE rfl rfl (p_move rfl).run ?_); clear hE a; intro a hE
      refine l_step rfl (o_pure hE rfl rfl (p_ifaceNil Tryd.underlying25 rfl rfl rfl).run ?_); clear hE a; intro a hE
      refine wpList_nil ?_
      refine then_normal ?_
      refine c_false hE rfl ?_
      refine wp_skip ?_
      refine then_normal ?_
      refine wp_seq ?_
      refine wp_seq ?_
      refine wp_region_list ?_   -- region 7
      refine l_step rfl (o_pure hE rfl rfl (p_fieldAddr (m := 4) rfl fo_34_4 rfl).run ?_); clear hE a; intro a hE
      refine l_step rfl (o_pure hE rfl rfl (f_load rfl scal_22 (hI.seg 0 rfl) rfl) ?_); clear hE a; intro a hE
      refine l_step rfl (o_pure hE rfl rfl (p_len rfl rfl Tryd.underlying22).run ?_); clear hE a; intro a hE
      refine l_step rfl (o_cmp hE rfl rfl rfl rfl rfl rfl ?_ ?_)
      · intro h3; replace h3 := gtr_t h3; clear hE a; intro a hE
        refine l_step rfl (o_pure hE rfl rfl (p_move rfl).run ?_); clear hE a; intro a hE
        refine l_skip hE rfl rfl rfl ?_; clear hE a; intro a hE
        refine l_skip hE rfl rfl rfl ?_; clear hE a; intro a hE
        refine l_skip hE rfl rfl rfl ?_; clear hE a; intro a hE
        refine l_skip hE rfl rfl rfl ?_; clear hE a; intro a hE
        refine l_skip hE rfl rfl rfl ?_; clear hE a; intro a hE
        refine l_skip hE rfl rfl rfl ?_; clear hE a; intro a hE
        refine l_skip hE rfl rfl rfl ?_; clear hE a; intro a hE
        refine l_skip hE rfl rfl rfl ?_; clear hE a; intro a hE
        refine l_skip hE rfl rfl rfl ?_; clear hE a; intro a hE
        refine l_step rfl (o_pure hE rfl rfl (p_pick (b := true) rfl rfl).run ?_); clear hE a; intro a hE
        refine wpList_nil ?_
        refine then_normal ?_
        refine c_true hE rfl ?_
        refine wp_seq ?_
        refine d_start [] [] (by kernel_rfl) hI rfl rfl ?_   -- region 8 draws its order
        clear hI w; intro w hI
        obtain ⟨T_14, fr_14, hg_14⟩ := g105
        refine d_load 0 hE rfl (by kernel_rfl) (by kernel_rfl) (by kernel_rfl) (by kernel_rfl) (by kernel_rfl) rfl rfl (fun _ _ _ h => h) rfl rfl rfl (fun w hS => f_load rfl scal_25 (Inv.data hS _ _ ((hD3.trans hD9) _ _ (hg_14))) rfl) (hI) (listed' := #[true, false, false]) rfl ?_; clear hE a; intro a hE
        refine d_pure 1 hE rfl (by kernel_rfl) (by kernel_rfl) (by kernel_rfl) rfl (fun _ _ _ h => h) rfl rfl rfl (p_assign rfl) (fun _ => hI) (listed' := #[true, true, false]) rfl ?_; clear hE a; intro a hE
        refine d_pure 2 hE rfl (by kernel_rfl) (by kernel_rfl) (by kernel_rfl) rfl (fun _ _ _ h => h) rfl rfl rfl (p_assign rfl) (fun _ => hI) (listed' := #[true, true, true]) rfl ?_; clear hE a; intro a hE
        refine d_done (by kernel_rfl) ?_
        refine then_normal ?_
        refine wp_ret ?_
        refine then_ret ?_
        refine ret2 rfl hE rfl rfl ?_
        refine ⟨_, (hD3.trans hD9), .inr ⟨?_, rfl, hI.drop⟩⟩
        rintro ⟨q1, q2, q3, q4⟩
        dsimp only at q1 q2 q3 q4
        first | omega | (rcases q4 with q4 | q4; cases q4; omega)
      · intro h3; replace h3 := gtr_f h3; clear hE a; intro a hE
        refine l_step rfl (o_pure hE rfl rfl (p_move rfl).run ?_); clear hE a; intro a hE
        refine l_go hE rfl (o_pure hE rfl rfl (p_fieldAddr (m := 3) rfl fo_34_3 rfl).run ?_); clear hE a; intro a hE
        refine l_go hE rfl (o_pure hE rfl rfl (f_load rfl scal_4 (hI.seg 0 rfl) rfl) ?_); clear hE a; intro a hE
        rcases Bool.eq_false_or_eq_true had with rfl | rfl
        · replace hhad := iff_t hhad
          refine l_go hE rfl (o_pure hE rfl rfl (p_not rfl).run ?_); clear hE a; intro a hE
          refine l_go hE rfl (o_pure hE rfl rfl (p_move rfl).run ?_); clear hE a; intro a hE
          refine l_skip hE rfl rfl rfl ?_; clear hE a; intro a hE
          refine l_skip hE rfl rfl rfl ?_; clear hE a; intro a hE
          refine l_skip hE rfl rfl rfl ?_; clear hE a; intro a hE
          refine l_skip hE rfl rfl rfl ?_; clear hE a; intro a hE
          refine l_go hE rfl (o_pure hE rfl rfl (p_pick (b := false) rfl rfl).run ?_); clear hE a; intro a hE
          refine l_step rfl (o_pure hE rfl rfl (p_pick (b := false) rfl rfl).run ?_); clear hE a; intro a hE
          refine wpList_nil ?_
          refine then_normal ?_
          refine c_false hE rfl ?_
          refine wp_skip ?_
          refine then_normal ?_
          refine wp_seq ?_
          refine wp_region_list ?_   -- region 9
          refine l_step rfl (o_pure hE rfl rfl (p_assign rfl).run ?_); clear hE a; intro a hE
          refine wpList_nil ?_
          refine then_normal ?_
          refine wp_seq ?_
          refine wp_seq ?_
          refine wp_region_list ?_   -- region 10
          refine l_step rfl (o_pure hE rfl rfl (p_fieldAddr (m := 3) rfl fo_34_3 rfl).run ?_); clear hE a; intro a hE
          refine l_step rfl (o_pure hE rfl rfl (f_load rfl scal_4 (hI.seg 0 rfl) rfl) ?_); clear hE a; intro a hE
          refine wpList_nil ?_
          refine then_normal ?_
          refine c_true hE rfl ?_
          refine wp_region_list ?_   -- region 11
          refine l_step rfl (o_pure hE rfl rfl (p_assign rfl).run ?_); clear hE a; intro a hE
          refine wpList_nil ?_
          refine then_normal ?_
          refine wp_seq ?_
          have hz1 : (putZ (key.length : Nat)).length = 1 := by rw [putZ_small (by omega) (by omega)]; rfl
          have hz2 : (putZ 1).length = 1 := by rw [putZ_small (by omega) (by omega)]; rfl
          refine d_start [] [] (by kernel_rfl) hI rfl rfl ?_   -- region 12 draws its order
          clear hI w; intro w hI
          refine d_pure 0 hE rfl (by kernel_rfl) (by kernel_rfl) (by kernel_rfl) rfl (fun _ _ _ h => h) rfl rfl rfl (p_fieldAddr (m := 2) rfl fo_34_2 rfl) (fun _ => hI) (listed' := #[true, false, false, false, false, false, false, false, false, false]) rfl ?_; clear hE a; intro a hE
          refine d_load 1 hE rfl (by kernel_rfl) (by kernel_rfl) (by kernel_rfl) (by kernel_rfl) (by kernel_rfl) rfl rfl (fun _ _ _ h => h) rfl rfl rfl (fun w hS => f_load rfl scal_22 (Inv.seg 0 hS rfl) rfl) (hI) (listed' := #[true, true, false, false, false, false, false, false, false, false]) rfl ?_; clear hE a; intro a hE
          refine d_pure 3 hE rfl (by kernel_rfl) (by kernel_rfl) (by kernel_rfl) rfl (fun _ _ _ h => h) rfl rfl rfl (p_move rfl) (fun _ => hI) (listed' := #[true, true, false, true, false, false, false, false, false, false]) rfl ?_; clear hE a; intro a hE
          refine d_pure 5 hE rfl (by kernel_rfl) (by kernel_rfl) (by kernel_rfl) rfl (fun _ _ _ h => h) rfl rfl rfl (p_fieldAddr (m := 4) rfl fo_34_4 rfl) (fun _ => hI) (listed' := #[true, true, false, true, false, true, false, false, false, false]) rfl ?_; clear hE a; intro a hE
          refine d_load 6 hE rfl (by kernel_rfl) (by kernel_rfl) (by kernel_rfl) (by kernel_rfl) (by kernel_rfl) rfl rfl (fun _ _ _ h => h) rfl rfl rfl (fun w hS => f_load rfl scal_22 (Inv.seg 0 hS rfl) rfl) (hI) (listed' := #[true, true, false, true, false, true, true, false, false, false]) rfl ?_; clear hE a; intro a hE
          refine d_one 2 hE rfl (by kernel_rfl) rfl (listed' := #[true, true, true, true, false, true, true, false, false, false]) rfl ?_
          refine o_call hE rfl rfl rfl rfl ent_55 (PutBytes_data hI (RB.nil _) (hk.mono (hD3.trans hD9)) (by simp; omega)) ?_
          clear hI hE a
          rintro r w ⟨D15, hD16, hI, hb17⟩ a hE
          obtain ⟨A18, c19, rfl, _⟩ := hb17.slice
          refine ⟨fun _ => (Inv.weaken hI hD16), ?_⟩
          refine d_one 4 hE rfl (by kernel_rfl) rfl (listed' := #[true, true, true, true, true, true, true, false, false, false]) rfl ?_
          refine o_call hE rfl rfl rfl rfl ent_56 (Put_data (m := 1) hI hb17 (by simp only [List.length_append, List.length_nil, hz1]; omega) (by omega) (by omega)) ?_
          clear hI hE a
          rintro r w ⟨D20, hD21, hI, hb22⟩ a hE
          obtain ⟨A23, c24, rfl, _⟩ := hb22.slice
          refine ⟨fun _ => (Inv.weaken hI (hD16.trans hD21)), ?_⟩
          refine d_one 7 hE rfl (by kernel_rfl) rfl (listed' := #[true, true, true, true, true, true, true, true, false, false]) rfl ?_
          refine o_call hE rfl rfl rfl rfl ent_55 (PutBytes_spec hI hb22 (hv.mono (((hD3.trans hD9).trans hD16).trans hD21)) (by simp only [List.length_append, List.length_nil, hz1]; omega)) ?_
          clear hI hE a
          rintro r w ⟨s28, hR25, hI⟩ a hE
          obtain ⟨A26, c27, rfl, _⟩ := Row.slice hR25
          refine ⟨fun _ => (Inv.weaken (hI.dropS [0]) (hD16.trans hD21)), ?_⟩
          refine d_pure 8 hE rfl (by kernel_rfl) (by kernel_rfl) (by kernel_rfl) rfl (fun _ _ _ h => h) rfl rfl rfl (p_assign rfl) (fun _ => (Inv.weaken (hI.dropS [0]) (hD16.trans hD21))) (listed' := #[true, true, true, true, true, true, true, true, true, false]) rfl ?_; clear hE a; intro a hE
          refine d_pure 9 hE rfl (by kernel_rfl) (by kernel_rfl) (by kernel_rfl) rfl (fun _ _ _ h => h) rfl rfl rfl (p_assign rfl) (fun _ => (Inv.weaken (hI.dropS [0]) (hD16.trans hD21))) (listed' := #[true, true, true, true, true, true, true, true, true, true]) rfl ?_; clear hE a; intro a hE
          refine d_done (by kernel_rfl) ?_
          refine then_normal ?_
          refine wp_ret ?_
          refine ret2 rfl hE rfl rfl ?_
          refine ⟨_, (((hD3.trans hD9).trans hD16).trans hD21), .inl ⟨_, _, ⟨by dsimp only; omega, by dsimp only; omega, by dsimp only; omega, .inl rfl⟩, rfl, hI.drop_at 1, Row.cast hR25 (by simp [Ent.enc, hadZ]) (by simp [Ent.enc, hadZ]; try omega)⟩⟩
        · replace hhad := iff_f hhad
          refine l_go hE rfl (o_pure hE rfl rfl (p_not rfl).run ?_); clear hE a; intro a hE
          refine l_go hE rfl (o_pure hE rfl rfl (p_move rfl).run ?_); clear hE a; intro a hE
          refine l_go hE rfl (o_pure hE rfl rfl (p_fieldAddr (m := 4) rfl fo_34_4 rfl).run ?_); clear hE a; intro a hE
          refine l_go hE rfl (o_pure hE rfl rfl (f_load rfl scal_22 (hI.seg 0 rfl) rfl) ?_); clear hE a; intro a hE
          refine l_go hE rfl (o_pure hE rfl rfl (p_len rfl rfl Tryd.underlying22).run ?_); clear hE a; intro a hE
          refine l_go hE rfl (o_cmp hE rfl rfl rfl rfl rfl rfl ?_ ?_)
          · intro h4; replace h4 := gtr_t h4; clear hE a; intro a hE
            refine l_go hE rfl (o_pure hE rfl rfl (p_pick (b := true) rfl rfl).run ?_); clear hE a; intro a hE
            refine l_step rfl (o_pure hE rfl rfl (p_pick (b := false) rfl rfl).run ?_); clear hE a; intro a hE
            refine wpList_nil ?_
            refine then_normal ?_
            refine c_true hE rfl ?_
            refine wp_seq ?_
            refine d_start [] [] (by kernel_rfl) hI rfl rfl ?_   -- region 8 draws its order
            clear hI w; intro w hI
            obtain ⟨T_29, fr_29, hg_29⟩ := g105
            refine d_load 0 hE rfl (by kernel_rfl) (by kernel_rfl) (by kernel_rfl) (by kernel_rfl) (by kernel_rfl) rfl rfl (fun _ _ _ h => h) rfl rfl rfl (fun w hS => f_load rfl scal_25 (Inv.data hS _ _ ((hD3.trans hD9) _ _ (hg_29))) rfl) (hI) (listed' := #[true, false, false]) rfl ?_; clear hE a; intro a hE
            refine d_pure 1 hE rfl (by kernel_rfl) (by kernel_rfl) (by kernel_rfl) rfl (fun _ _ _ h => h) rfl rfl rfl (p_assign rfl) (fun _ => hI) (listed' := #[true, true, false]) rfl ?_; clear hE a; intro a hE
            refine d_pure 2 hE rfl (by kernel_rfl) (by kernel_rfl) (by kernel_rfl) rfl (fun _ _ _ h => h) rfl rfl rfl (p_assign rfl) (fun _ => hI) (listed' := #[true, true, true]) rfl ?_; clear hE a; intro a hE
            refine d_done (by kernel_rfl) ?_
            refine then_normal ?_
            refine wp_ret ?_
            refine then_ret ?_
            refine ret2 rfl hE rfl rfl ?_
            refine ⟨_, (hD3.trans hD9), .inr ⟨?_, rfl, hI.drop⟩⟩
            rintro ⟨q1, q2, q3, q4⟩
            dsimp only at q1 q2 q3 q4
            first | omega | (rcases q4 with q4 | q4; cases q4; omega)
          · intro h4; replace h4 := gtr_f h4; clear hE a; intro a hE
            refine l_go hE rfl (o_pure hE rfl rfl (p_pick (b := true) rfl rfl).run ?_); clear hE a; intro a hE
            refine l_step rfl (o_pure hE rfl rfl (p_pick (b := false) rfl rfl).run ?_); clear hE a; intro a hE
            refine wpList_nil ?_
            refine then_normal ?_
            refine c_false hE rfl ?_
            refine wp_skip ?_
            refine then_normal ?_
            refine wp_seq ?_
            refine wp_region_list ?_   -- region 9
            refine l_step rfl (o_pure hE rfl rfl (p_assign rfl).run ?_); clear hE a; intro a hE
            refine wpList_nil ?_
            refine then_normal ?_
            refine wp_seq ?_
            refine wp_seq ?_
            refine wp_region_list ?_   -- region 10
            refine l_step rfl (o_pure hE rfl rfl (p_fieldAddr (m := 3) rfl fo_34_3 rfl).run ?_); clear hE a; intro a hE
            refine l_step rfl (o_pure hE rfl rfl (f_load rfl scal_4 (hI.seg 0 rfl) rfl) ?_); clear hE a; intro a hE
            refine wpList_nil ?_
            refine then_normal ?_
            refine c_false hE rfl ?_
            refine wp_skip ?_
            refine then_normal ?_
            refine wp_seq ?_
            have hz1 : (putZ (key.length : Nat)).length = 1 := by rw [putZ_small (by omega) (by omega)]; rfl
            have hz2 : (putZ 0).length = 1 := by rw [putZ_small (by omega) (by omega)]; rfl
            refine d_start [] [] (by kernel_rfl) hI rfl rfl ?_   -- region 12 draws its order
            clear hI w; intro w hI
            refine d_pure 0 hE rfl (by kernel_rfl) (by kernel_rfl) (by kernel_rfl) rfl (fun _ _ _ h => h) rfl rfl rfl (p_fieldAddr (m := 2) rfl fo_34_2 rfl) (fun _ => hI) (listed' := #[true, false, false, false, false, false, false, false, false, false]) rfl ?_; clear hE a; intro a hE
            refine d_load 1 hE rfl (by kernel_rfl) (by kernel_rfl) (by kernel_rfl) (by kernel_rfl) (by kernel_rfl) rfl rfl (fun _ _ _ h => h) rfl rfl rfl (fun w hS => f_load rfl scal_22 (Inv.seg 0 hS rfl) rfl) (hI) (listed' := #[true, true, false, false, false, false, false, false, false, false]) rfl ?_; clear hE a; intro a hE
            refine d_pure 3 hE rfl (by kernel_rfl) (by kernel_rfl) (by kernel_rfl) rfl (fun _ _ _ h => h) rfl rfl rfl (p_move rfl) (fun _ => hI) (listed' := #[true, true, false, true, false, false, false, false, false, false]) rfl ?_; clear hE a; intro a hE
            refine d_pure 5 hE rfl (by kernel_rfl) (by kernel_rfl) (by kernel_rfl) rfl (fun _ _ _ h => h) rfl rfl rfl (p_fieldAddr (m := 4) rfl fo_34_4 rfl) (fun _ => hI) (listed' := #[true, true, false, true, false, true, false, false, false, false]) rfl ?_; clear hE a; intro a hE
            refine d_load 6 hE rfl (by kernel_rfl) (by kernel_rfl) (by kernel_rfl) (by kernel_rfl) (by kernel_rfl) rfl rfl (fun _ _ _ h => h) rfl rfl rfl (fun w hS => f_load rfl scal_22 (Inv.seg 0 hS rfl) rfl) (hI) (listed' := #[true, true, false, true, false, true, true, false, false, false]) rfl ?_; clear hE a; intro a hE
            refine d_one 2 hE rfl (by kernel_rfl) rfl (listed' := #[true, true, true, true, false, true, true, false, false, false]) rfl ?_
            refine o_call hE rfl rfl rfl rfl ent_55 (PutBytes_data hI (RB.nil _) (hk.mono (hD3.trans hD9)) (by simp; omega)) ?_
            clear hI hE a
            rintro r w ⟨D30, hD31, hI, hb32⟩ a hE
            obtain ⟨A33, c34, rfl, _⟩ := hb32.slice
            refine ⟨fun _ => (Inv.weaken hI hD31), ?_⟩
            refine d_one 4 hE rfl (by kernel_rfl) rfl (listed' := #[true, true, true, true, true, true, true, false, false, false]) rfl ?_
            refine o_call hE rfl rfl rfl rfl ent_56 (Put_data (m := 0) hI hb32 (by simp only [List.length_append, List.length_nil, hz1]; omega) (by omega) (by omega)) ?_
            clear hI hE a
            rintro r w ⟨D35, hD36, hI, hb37⟩ a hE
            obtain ⟨A38, c39, rfl, _⟩ := hb37.slice
            refine ⟨fun _ => (Inv.weaken hI (hD31.trans hD36)), ?_⟩
            refine d_one 7 hE rfl (by kernel_rfl) rfl (listed' := #[true, true, true, true, true, true, true, true, false, false]) rfl ?_
            refine o_call hE rfl rfl rfl rfl ent_55 (PutBytes_spec hI hb37 (hv.mono (((hD3.trans hD9).trans hD31).trans hD36)) (by simp only [List.length_append, List.length_nil, hz1]; omega)) ?_
            clear hI hE a
            rintro r w ⟨s43, hR40, hI⟩ a hE
            obtain ⟨A41, c42, rfl, _⟩ := Row.slice hR40
            refine ⟨fun _ => (Inv.weaken (hI.dropS [0]) (hD31.trans hD36)), ?_⟩
            refine d_pure 8 hE rfl (by kernel_rfl) (by kernel_rfl) (by kernel_rfl) rfl (fun _ _ _ h => h) rfl rfl rfl (p_assign rfl) (fun _ => (Inv.weaken (hI.dropS [0]) (hD31.trans hD36))) (listed' := #[true, true, true, true, true, true, true, true, true, false]) rfl ?_; clear hE a; intro a hE
            refine d_pure 9 hE rfl (by kernel_rfl) (by kernel_rfl) (by kernel_rfl) rfl (fun _ _ _ h => h) rfl rfl rfl (p_assign rfl) (fun _ => (Inv.weaken (hI.dropS [0]) (hD31.trans hD36))) (listed' := #[true, true, true, true, true, true, true, true, true, true]) rfl ?_; clear hE a; intro a hE
            refine d_done (by kernel_rfl) ?_
            refine then_normal ?_
            refine wp_ret ?_
            refine ret2 rfl hE rfl rfl ?_
            refine ⟨_, (((hD3.trans hD9).trans hD31).trans hD36), .inl ⟨_, _, ⟨by dsimp only; omega, by dsimp only; omega, by dsimp only; omega, .inr (by dsimp only; omega)⟩, rfl, hI.drop_at 1, Row.cast hR40 (by simp [Ent.enc, hadZ]) (by simp [Ent.enc, hadZ]; try omega)⟩⟩
    · skip
      refine l_step rfl (o_pure hE rfl rfl (p_move rfl).run ?_); clear hE a; intro a hE
      refine l_step rfl (o_pure hE rfl rfl (f_extract rfl rfl).run ?_); clear hE a; intro a hE
      refine l_step rfl (o_pure hE rfl rfl (f_extract rfl rfl).run ?_); clear hE a; intro a hE
      refine l_step rfl (o_pure hE rfl rfl (p_assign rfl).run ?_); clear hE a; intro a hE
      refine l_step rfl (o_pure hE rfl rfl (p_assign rfl).run ?_); clear hE a; intro a hE
      refine wpList_nil ?_
      refine then_normal ?_
      refine wp_seq ?_
      refine wp_region_list ?_   -- region 5
      refine l_step rfl (o_pure hE rfl rfl (p_move rfl).run ?_); clear hE a; intro a hE
      refine l_step rfl (o_pure hE rfl rfl (p_ifaceNil Tryd.underlying25 rfl rfl rfl).run ?_); clear hE a; intro a hE
      refine wpList_nil ?_
      refine then_normal ?_
      refine c_true hE rfl ?_
      refine wp_seq ?_
      refine wp_region_list ?_   -- region 6
      refine l_step rfl (o_pure hE rfl rfl (p_move rfl).run ?_); clear hE a; intro a hE
      refine l_step rfl (o_pure hE rfl rfl (p_assign rfl).run ?_); clear hE a; intro a hE
      refine l_step rfl (o_pure hE rfl rfl (p_assign rfl).run ?_); clear hE a; intro a hE
      refine wpList_nil ?_
      refine then_normal ?_
      refine wp_ret ?_
      refine then_ret ?_
      refine ret2 rfl hE rfl rfl ?_
      refine ⟨_, hD3, .inr ⟨?_, rfl, hI.drop⟩⟩
      rintro ⟨q1, q2, q3, q4⟩
      dsimp only at q1 q2 q3 q4
      first | omega | (rcases q4 with q4 | q4; cases q4; omega)
  · skip
    refine l_step rfl (o_pure hE rfl rfl (p_move rfl).run ?_); clear hE a; intro a hE
    refine l_step rfl (o_pure hE rfl rfl (f_extract rfl rfl).run ?_); clear hE a; intro a hE
    refine l_step rfl (o_pure hE rfl rfl (f_extract rfl rfl).run ?_); clear hE a; intro a hE
    refine l_step rfl (o_pure hE rfl rfl (p_assign rfl).run ?_); clear hE a; intro a hE
    refine l_step rfl (o_pure hE rfl rfl (p_assign rfl).run ?_); clear hE a; intro a hE
    refine wpList_nil ?_
    refine then_normal ?_
    refine wp_seq ?_
    refine wp_region_list ?_   -- region 2
    refine l_step rfl (o_pure hE rfl rfl (p_move rfl).run ?_); clear hE a; intro a hE
    refine l_step rfl (o_pure hE rfl rfl (p_ifaceNil Tryd.underlying25 rfl rfl rfl).run ?_); clear hE a; intro a hE
    refine wpList_nil ?_
    refine then_normal ?_
    refine c_true hE rfl ?_
    refine wp_seq ?_
    refine wp_region_list ?_   -- region 3
    refine l_step rfl (o_pure hE rfl rfl (p_move rfl).run ?_); clear hE a; intro a hE
    refine l_step rfl (o_pure hE rfl rfl (p_assign rfl).run ?_); clear hE a; intro a hE
    refine l_step rfl (o_pure hE rfl rfl (p_assign rfl).run ?_); clear hE a; intro a hE
    refine wpList_nil ?_
    refine then_normal ?_
    refine wp_ret ?_
    refine then_ret ?_
    refine ret2 rfl hE rfl rfl ?_
    refine ⟨_, (Le.refl _), .inr ⟨?_, rfl, hI.drop⟩⟩
    rintro ⟨q1, q2, q3, q4⟩
    dsimp only at q1 q2 q3 q4
    first | omega | (rcases q4 with q4 | q4; cases q4; omega)

end Go.Proofs.YtbogbnkckofpdaaDoor.B
