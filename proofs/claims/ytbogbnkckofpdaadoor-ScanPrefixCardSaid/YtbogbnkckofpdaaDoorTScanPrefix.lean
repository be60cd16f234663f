/- What functions of the program compute, each function once: steps over the model, and the plain law of it. -/
import Derived.Test.YtbogbnkckofpdaaDoorTScanPref
namespace Go.Proofs.YtbogbnkckofpdaaDoor.B
open Go Go.Proofs
set_option linter.unusedVariables false
set_option linter.unusedSimpArgs false
set_option maxRecDepth 20000
set_option maxHeartbeats 8000000
namespace FTScanPrefix
theorem agg_69 : aggSize Tryd.prog 69 = some 2 := by kernel_rfl
theorem ent_18 : enters Tryd.prog 18 = true := by kernel_rfl
theorem ent_20 : enters Tryd.prog 20 = true := by kernel_rfl
theorem ent_31 : enters Tryd.prog 31 = true := by kernel_rfl
theorem ent_38 : enters Tryd.prog 38 = true := by kernel_rfl
theorem ent_39 : enters Tryd.prog 39 = true := by kernel_rfl
theorem ent_42 : enters Tryd.prog 42 = true := by kernel_rfl
theorem ent_44 : enters Tryd.prog 44 = true := by kernel_rfl
theorem fo_69_0 : fieldOff Tryd.prog 69 0 = some 0 := by kernel_rfl
theorem scal_22 : isScal Tryd.prog 22 = true := by kernel_rfl
theorem scal_3 : isScal Tryd.prog 3 = true := by kernel_rfl
theorem scal_4 : isScal Tryd.prog 4 = true := by kernel_rfl
theorem scal_65 : isScal Tryd.prog 65 = true := by kernel_rfl
theorem sz_3 : (Tryd.prog.info? 3).map (·.size) = some 1 := by kernel_rfl
theorem sz_4 : (Tryd.prog.info? 4).map (·.size) = some 1 := by kernel_rfl
theorem sz_5 : (Tryd.prog.info? 5).map (·.size) = some 1 := by kernel_rfl
theorem sz_65 : (Tryd.prog.info? 65).map (·.size) = some 1 := by kernel_rfl
theorem sz_69 : (Tryd.prog.info? 69).map (·.size) = some 2 := by kernel_rfl
theorem zer_3 : (Tryd.prog.info? 3).bind (·.zero) = some (.int .i64 0) := by kernel_rfl
theorem zer_4 : (Tryd.prog.info? 4).bind (·.zero) = some (.bool false) := by kernel_rfl
theorem zer_65 : (Tryd.prog.info? 65).bind (·.zero) = some (.slice none 0 0) := by kernel_rfl
theorem zer_69 : (Tryd.prog.info? 69).bind (·.zero) = some (.agg #[.slice none 0 0, .slice none 0 0]) := by kernel_rfl
theorem zs_69 : (Tryd.prog.info? 69).map (fun i => (i.zero, i.size)) = some (some (.agg #[.slice none 0 0, .slice none 0 0]), 2) := by kernel_rfl
theorem zsb_69 : (Tryd.prog.info? 69).map (fun i => (i.zero, i.size, i.bytes)) = some (some (.agg #[.slice none 0 0, .slice none 0 0]), 2, 48) := by kernel_rfl
end FTScanPrefix
open FTScanPrefix
theorem x_loop {ρ : Option Nat} {P : Program} {ds : List Deferred} {Q : QX} {N : Nat} {a : Act} {w : World} {X : Type} {c : Code} (en : X → Env) (W : X → World → Prop) (m : X → Nat) (x0 : X) (hE : EnvOk N (en x0) a) (hW : W x0 w)
    (round : ∀ x a w, EnvOk N (en x) a → W x w → wpX ρ P ds c (thenX (fun ds' a' w' => ds' = ds ∧ ∃ x', EnvOk N (en x') a' ∧ W x' w' ∧ m x' < m x) Q) a w) : wpX ρ P ds (.loop c) Q a w := by
  intro b k cs hro hb hr
  have key : ∀ n x a w, m x = n → EnvOk N (en x) a → W x w →
      ∃ e a' w', downX Q e a' w' ∧ ArrivesIn (Machine.fenced P (wideR ρ)) P (lone (b.atR (lifts ds a) (.code c :: .inLoop c :: k)) cs w) b k cs e a' w' := by
    intro n
    induction n using Nat.strongRecOn with
    | _ n ih =>
      intro x a w hn hE hW
      obtain ⟨e, a₁, w₁, hq, harr⟩ := round x a w hE hW b (.inLoop c :: k) cs hro hb hr
      obtain ⟨ds1, a2, rfl, hq⟩ := hq
      cases e with
      | normal =>
        obtain ⟨rfl, x', hE', hW', hlt⟩ := hq
        obtain ⟨e₂, a₂, w₂, hq₂, harr₂⟩ := ih (m x') (hn ▸ hlt) x' a2 w₁ rfl hE' hW'
        exact ⟨e₂, a₂, w₂, hq₂, .of_steps (StepsIn.trans harr (.one (fenced_calm hb hr rfl) stepR_inLoop)) harr₂⟩
      | exit id => exact ⟨_, _, w₁, ⟨ds1, a2, rfl, hq⟩, .pass (x := .inLoop c) rfl (fun _ _ => .inl (by simp)) harr⟩
      | goto l => exact ⟨_, _, w₁, ⟨ds1, a2, rfl, hq⟩, .pass (x := .inLoop c) rfl (fun _ _ => .inl (by simp)) harr⟩
      | ret => exact ⟨_, _, w₁, ⟨ds1, a2, rfl, hq⟩, .pass (x := .inLoop c) rfl (fun _ _ => .inl (by simp)) harr⟩
      | panic ch => exact ⟨_, _, w₁, ⟨ds1, a2, rfl, hq⟩, .pass (x := .inLoop c) rfl (fun _ _ => .inl (by simp)) harr⟩
      | outgrown => exact ⟨_, _, w₁, ⟨ds1, a2, rfl, hq⟩, .pass (x := .inLoop c) rfl (fun _ _ => .inl (by simp)) harr⟩
  obtain ⟨e, a', w', hq, harr⟩ := key _ x0 a w rfl hE hW
  exact ⟨e, a', w', hq, .of_steps (.one (fenced_calm hb hr rfl) stepR_loop) harr⟩
theorem ScanPrefix_spec {w0 w : World} {D : Sto} {ss : List Seg} (hI : Inv w0 D ss w) {ad : Nat → Addr} (hS : TSents D ad) {vl vp : Value} {l : List Bs} {pre : Bs} (hl : DR 1 BsR D vl l) (hp : RB D vp pre) (i2 : Int) :
    Calls Tryd.prog 9 #[vl, vp, .int .i64 i2] w (Ret fun r w' => r = .bool true ∧ ∃ D', Le D D' ∧ Inv w0 D' ss w') := by
  obtain ⟨A1, c2, rfl, _⟩ := hl.slice
  obtain ⟨A3, c4, rfl, _⟩ := hp.slice
  refine enterX (N := 126) Tryd.func9 rfl rfl rfl ?_
  intro a hE
  refine x_seq ?_
  refine x_region_list (by kernel_rfl) (fun _ _ h => h) ?_
  refine l_step rfl (f_alloc (cs := #[.bool false]) hE hI rfl rfl rfl zer_4 rfl ?_)
  clear hI hE a w; intro a b5 w hE hI
  refine wpList_nil ?_
  refine x_then_normal ?_
  refine x_seq ?_
  refine x_region_list (by kernel_rfl) (fun _ _ h => h) ?_
  refine l_step rfl (o_call hE rfl rfl rfl rfl ent_38 (first22_spec hI hS) ?_)
  clear hI hE a
  rintro r w ⟨D6, hD7, hI, rfl⟩ a hE
  refine qa hE rfl rfl rfl rfl rfl ?_; clear hE a; intro a hE
  refine wpList_nil ?_
  refine x_then_normal ?_
  refine x_seq ?_
  refine x_seq ?_
  refine x_region_list (by kernel_rfl) (fun _ _ h => h) ?_
  refine qm hE rfl rfl rfl rfl rfl ?_; clear hE a; intro a hE
  refine qs hE rfl rfl rfl (p_not rfl) ?_; clear hE a; intro a hE
  refine wpList_nil ?_
  refine x_then_normal ?_
  refine x_false hE rfl ?_
  refine x_skip ?_
  refine x_then_normal ?_
  refine x_seq ?_
  refine x_seq ?_
  refine x_region_list (by kernel_rfl) (fun _ _ h => h) ?_
  refine qm hE rfl rfl rfl rfl rfl ?_; clear hE a; intro a hE
  refine l_step rfl (o_call hE rfl rfl rfl rfl ent_31 (Keys_spec (l := l) (most := 120) (long := 40) hI (DR.mono BsR.keeps hl hD7) (by omega)) ?_)
  clear hI hE a
  rintro r w ⟨rfl, hI⟩ a hE
  obtain ⟨bf8, hbf9⟩ : ∃ b, decide ((l.length : Int) ≤ 120 ∧ ∀ k ∈ l, (k.length : Int) ≤ 40) = b := ⟨_, rfl⟩
  rw [hbf9] at hE
  replace hbf9 : bf8 = true ↔ ((l.length : Int) ≤ 120 ∧ ∀ k ∈ l, (k.length : Int) ≤ 40) := by rw [← hbf9]; exact decide_eq_true_iff
  rcases Bool.eq_false_or_eq_true bf8 with rfl | rfl
  · replace hbf9 := iff_t hbf9
    refine qs hE rfl rfl rfl (p_not rfl) ?_; clear hE a; intro a hE
    refine qm hE rfl rfl rfl rfl rfl ?_; clear hE a; intro a hE
    refine l_go hE rfl (o_pure hE rfl rfl (p_move rfl).run ?_); clear hE a; intro a hE
    refine l_go hE rfl (o_pure hE rfl rfl (p_len rfl rfl Tryd.underlying22).run ?_); clear hE a; intro a hE
    refine l_go hE rfl (o_cmp hE rfl rfl rfl rfl rfl rfl ?_ ?_)
    · intro hpl; replace hpl := gtr_t hpl; clear hE a; intro a hE
      refine qs hE rfl rfl rfl (p_pick (b := false) rfl rfl) ?_; clear hE a; intro a hE
      refine qm hE rfl rfl rfl rfl rfl ?_; clear hE a; intro a hE
      refine l_skip hE rfl rfl rfl ?_; clear hE a; intro a hE
      refine l_skip hE rfl rfl rfl ?_; clear hE a; intro a hE
      refine qs hE rfl rfl rfl (p_pick (b := true) rfl rfl) ?_; clear hE a; intro a hE
      refine wpList_nil ?_
      refine x_then_normal ?_
      refine x_true hE rfl ?_
      refine x_seq ?_
      refine x_region_list (by kernel_rfl) (fun _ _ h => h) ?_
      refine qm hE rfl rfl rfl rfl rfl ?_; clear hE a; intro a hE
      refine l_step rfl (f_store (l := [_]) (ss' := _ :: _) 0 hE hI rfl rfl rfl rfl rfl sz_4 (by simp [Value.cells, Value.oneCell', pgCells, rcCells, zPg]) rfl rfl rfl ?_)
      clear hI w; intro w hI
      refine wpList_nil ?_
      refine x_then_normal ?_
      refine x_ret ?_
      refine x_then_ret ?_
      refine x_fin ?_
      refine retcs rfl hE rfl scal_4 (hI.seg 0 rfl) ?_
      exact ⟨rfl, _, hD7, hI.drop⟩
    intro hpl; replace hpl := gtr_f hpl; clear hE a; intro a hE
    refine qs hE rfl rfl rfl (p_pick (b := false) rfl rfl) ?_; clear hE a; intro a hE
    refine qm hE rfl rfl rfl rfl rfl ?_; clear hE a; intro a hE
    refine l_go hE rfl (o_pure hE rfl rfl (p_move rfl).run ?_); clear hE a; intro a hE
    refine l_go hE rfl (o_pure hE rfl rfl (p_not rfl).run ?_); clear hE a; intro a hE
    refine qs hE rfl rfl rfl (p_pick (b := false) rfl rfl) ?_; clear hE a; intro a hE
    refine wpList_nil ?_
    refine x_then_normal ?_
    refine x_false hE rfl ?_
    refine x_skip ?_
    refine x_then_normal ?_
    refine x_seq ?_
    refine x_region_list (by kernel_rfl) (fun _ _ h => h) ?_
    refine qm hE rfl rfl rfl rfl rfl ?_; clear hE a; intro a hE
    have hll := (hbf9).1
    have hmf := made_fine l l.length
    have hkl := hmf.len
    have hents : ∀ e ∈ madeKv l l.length, e.1.length ≤ 32 ∧ e.2.length = 1 := fun e he => ⟨(hmf.ents e he).1.2, (hmf.ents e he).2⟩
    have hwl : (wantE pre (madeKv l l.length)).length ≤ (madeKv l l.length).length := List.length_filter_le _ _
    refine l_step rfl (o_call hE rfl rfl rfl rfl ent_39 (made_spec (l := l) hI (hS.mono hD7) (DR.mono BsR.keeps hl hD7) (by omega)) ?_)
    clear hI hE a
    rintro r w ⟨D10, q11, vh12, sp13, P14, hD15, rfl, hP16, hO17, hH18, hI⟩ a hE
    obtain ⟨A19, c20, rfl, _⟩ := hH18.slice
    refine qm hE rfl rfl rfl rfl rfl ?_; clear hE a; intro a hE
    refine qs hE rfl rfl rfl (f_extract rfl rfl) ?_; clear hE a; intro a hE
    refine qs hE rfl rfl rfl (f_extract rfl rfl) ?_; clear hE a; intro a hE
    refine qa hE rfl rfl rfl rfl rfl ?_; clear hE a; intro a hE
    refine qa hE rfl rfl rfl rfl rfl ?_; clear hE a; intro a hE
    refine wpList_nil ?_
    refine x_then_normal ?_
    refine x_seq ?_
    refine x_seq ?_
    refine x_region_list (by kernel_rfl) (fun _ _ h => h) ?_
    refine qm hE rfl rfl rfl rfl rfl ?_; clear hE a; intro a hE
    refine qs hE rfl rfl rfl (p_eq rfl rfl (g_none rfl) (e_ptrNil Tryd.underlying52 rfl) rfl rfl) ?_; clear hE a; intro a hE
    refine wpList_nil ?_
    refine x_then_normal ?_
    refine x_false hE rfl ?_
    refine x_skip ?_
    refine x_then_normal ?_
    refine x_seq ?_
    refine x_region_list (by kernel_rfl) (fun _ _ h => h) ?_
    refine l_step rfl (f_alloc (cs := #[.slice none 0 0]) hE hI rfl rfl rfl zer_65 rfl ?_)
    clear hI hE a w; intro a b21 w hE hI
    refine wpList_nil ?_
    refine x_then_normal ?_
    refine x_seq ?_
    refine x_seq ?_
    refine x_region_list (by kernel_rfl) (fun _ _ h => h) ?_
    refine qa hE rfl rfl rfl rfl rfl ?_; clear hE a; intro a hE
    refine wpList_nil ?_
    refine x_then_normal ?_
    refine x_block ?_
    replace hI := hI.bring 1
    replace hI := hI.bring 2
    replace hI := hI.bring 2
    replace hI : Inv w0 D10 ([(b21, .cells #[.slice none 0 0] 65 (0, 0))] :: [(b5, .cells #[.bool false] 4 (0, 0))] :: sp13 :: ss) _ := hI
    replace hI : Inv w0 D10 ([(b21, .cells #[.slice none 0 0] 65 (0, 0))] :: [] :: [(b5, .cells #[.bool false] 4 (0, 0))] :: sp13 :: ss) _ := hI.perm (List.Perm.of_eq (by simp))
    refine x_loop (X := Nat × Value × Seg) (fun x => [(0, _), (1, _), (2, _), (6, _), (7, _), (8, _), (9, _), (10, _), (11, .int .i64 (x.1 : Nat))]) (fun x w => x.1 ≤ (madeKv l l.length).length ∧ OR 2 EnR D10 69 x.2.1 (wantE pre ((madeKv l l.length).take x.1)) x.2.2 ∧ Inv w0 D10 ([(b21, .cells #[x.2.1] 65 (0, 0))] :: x.2.2 :: [(b5, .cells #[.bool false] 4 (0, 0))] :: sp13 :: ss) w) (fun x => (madeKv l l.length).length - x.1) (0, .slice none 0 0, []) (hE.pick [0, 1, 2, 6, 7, 8, 9, 10, 11]) ⟨Nat.zero_le _, OR.at_eq (OR.nil 2 EnR D10 69) (by simp [wantE]), hI⟩ ?_
    clear hE hI a w
    rintro ⟨i, vw, sw⟩ a w hE ⟨hi, hW1, hI⟩
    try dsimp only at hE
    try dsimp only at hi
    try dsimp only at hW1
    try dsimp only at hI
    obtain ⟨Aw, cw, rfl, _⟩ := hW1.slice
    refine x_seq ?_
    refine x_seq ?_
    refine x_region_list (by kernel_rfl) (fun _ _ h => h) ?_
    refine qm hE rfl rfl rfl rfl rfl ?_; clear hE a; intro a hE
    refine qm hE rfl rfl rfl rfl rfl ?_; clear hE a; intro a hE
    refine qs hE rfl rfl rfl (p_len rfl rfl Tryd.underlying65) ?_; clear hE a; intro a hE
    refine l_step rfl (o_cmp hE rfl rfl rfl rfl rfl rfl ?_ ?_)
    · intro hlt; replace hlt := lss_t hlt; clear hE a; intro a hE
      refine wpList_nil ?_
      refine x_then_normal ?_
      refine x_true hE rfl ?_
      refine x_skip ?_
      refine x_then_normal ?_
      refine x_seq ?_
      refine x_block ?_
      refine x_seq ?_
      refine x_region_list (by kernel_rfl) (fun _ _ h => h) ?_
      refine qm hE rfl rfl rfl rfl rfl ?_; clear hE a; intro a hE
      refine qm hE rfl rfl rfl rfl rfl ?_; clear hE a; intro a hE
      obtain ⟨x_22, hx_22⟩ : ∃ z9, ((madeKv l (l).length))[i]? = some z9 := ⟨_, List.getElem?_eq_getElem (by omega)⟩
      obtain ⟨b_22, o_22, cs_22, T_22, fr_22, rfl, hb_22, hat_22⟩ := hH18.at_ (by intro h0; rw [h0] at hx_22; simp at hx_22)
      obtain ⟨vs_22, hl_22, ⟨k_22, v_22, rfl, hk_22, hv_22, hok_22⟩, hex_22, hsz_22, hce_22⟩ := hat_22.extract hx_22 (by omega)
      obtain ⟨A23, c24, rfl, _⟩ := hk_22.slice
      obtain ⟨A25, c26, rfl, _⟩ := hv_22.slice
      refine qs hE rfl rfl rfl (p_indexAddr (m := o_22 + i * 2) rfl rfl Tryd.underlying65 sz_69 (by omega) (by omega) (by simp)) ?_; clear hE a; intro a hE
      refine qs hE rfl rfl rfl (p_fieldAddr rfl fo_69_0 rfl) ?_; clear hE a; intro a hE
      refine ql hE rfl rfl rfl (r_load rfl scal_22 (hI.data _ _ (hb_22)) (hce_22 0 _ rfl)) ?_; clear hE a; intro a hE
      refine qs hE rfl rfl rfl (p_len rfl rfl Tryd.underlying22) ?_; clear hE a; intro a hE
      refine qm hE rfl rfl rfl rfl rfl ?_; clear hE a; intro a hE
      refine qs hE rfl rfl rfl (p_len rfl rfl Tryd.underlying22) ?_; clear hE a; intro a hE
      refine l_step rfl (o_cmp hE rfl rfl rfl rfl rfl rfl ?_ ?_)
      · intro hpk; replace hpk := geq_t hpk; clear hE a; intro a hE
        refine qm hE rfl rfl rfl rfl rfl ?_; clear hE a; intro a hE
        refine l_go hE rfl (o_pure hE rfl rfl (p_move rfl).run ?_); clear hE a; intro a hE
        refine l_go hE rfl (o_pure hE rfl rfl (p_move rfl).run ?_); clear hE a; intro a hE
        refine l_go hE rfl (o_pure hE rfl rfl (p_indexAddr (m := o_22 + i * 2) rfl rfl Tryd.underlying65 sz_69 (by omega) (by omega) (by simp)).run ?_); clear hE a; intro a hE
        refine l_go hE rfl (o_pure hE rfl rfl (p_fieldAddr rfl fo_69_0 rfl).run ?_); clear hE a; intro a hE
        refine l_go hE rfl (o_pure hE rfl rfl (r_load rfl scal_22 (hI.data _ _ (hb_22)) (hce_22 0 _ rfl)) ?_); clear hE a; intro a hE
        refine l_go hE rfl (o_pure hE rfl rfl (p_move rfl).run ?_); clear hE a; intro a hE
        refine l_go hE rfl (o_pure hE rfl rfl (p_len rfl rfl Tryd.underlying22).run ?_); clear hE a; intro a hE
        refine l_go hE rfl (o_sliceRB (l := 0) (h := pre.length) hE rfl rfl rfl rfl Tryd.underlying22 sz_5 (rfl) (lo_at rfl (by omega) (by omega)) (hk_22) (by omega) (by omega) ?_)
        clear hE a; intro A28 c29 hs27 a hE
        refine l_go hE rfl (o_pure hE rfl rfl (p_move rfl).run ?_); clear hE a; intro a hE
        have hel := hents _ (List.mem_of_getElem? hx_22)
        refine l_go hE rfl (o_call hE rfl rfl rfl rfl ent_18 (SameBytes_spec hI hs27 (hp.mono (hD7.trans hD15)) (by simp only [List.length_take, List.length_drop]; omega)) ?_)
        clear hI hE a
        rintro r w h a hE; rcases h with ⟨rfl, hsm30, hI⟩ | ⟨rfl, hsm30, hI⟩
        · skip
          refine qs hE rfl rfl rfl (p_pick (b := true) rfl rfl) ?_; clear hE a; intro a hE
          refine wpList_nil ?_
          refine x_then_normal ?_
          refine x_true hE rfl ?_
          refine x_start [7] [1] (by kernel_rfl) (by kernel_rfl) (fun _ _ h => h) hI rfl rfl ?_
          clear hI w; intro w hI
          refine d_load 0 hE rfl (by kernel_rfl) (by kernel_rfl) (by kernel_rfl) (by kernel_rfl) (by kernel_rfl) rfl rfl (fun _ _ _ h => h) rfl rfl rfl (fun w hS => f_load rfl scal_65 (Inv.seg 0 hS rfl) rfl) ((hI.dropS [1])) (listed' := #[true, false, false, false, false, false, false, false]) rfl ?_; clear hE a; intro a hE
          refine d_pure 1 hE rfl (by kernel_rfl) (by kernel_rfl) (by kernel_rfl) rfl (fun _ _ _ h => h) rfl rfl rfl (p_move rfl) (fun _ => (hI.dropS [1])) (listed' := #[true, true, false, false, false, false, false, false]) rfl ?_; clear hE a; intro a hE
          refine d_pure 2 hE rfl (by kernel_rfl) (by kernel_rfl) (by kernel_rfl) rfl (fun _ _ _ h => h) rfl rfl rfl (p_move rfl) (fun _ => (hI.dropS [1])) (listed' := #[true, true, true, false, false, false, false, false]) rfl ?_; clear hE a; intro a hE
          refine d_pure 3 hE rfl (by kernel_rfl) (by kernel_rfl) (by kernel_rfl) rfl (fun _ _ _ h => h) rfl rfl rfl (p_indexAddr (m := o_22 + i * 2) rfl rfl Tryd.underlying65 sz_69 (by omega) (by omega) (by simp)) (fun _ => (hI.dropS [1])) (listed' := #[true, true, true, true, false, false, false, false]) rfl ?_; clear hE a; intro a hE
          refine d_load 4 hE rfl (by kernel_rfl) (by kernel_rfl) (by kernel_rfl) (by kernel_rfl) (by kernel_rfl) rfl rfl (fun _ _ _ h => h) rfl rfl rfl (fun w hS => r_loadA rfl agg_69 (Inv.data hS _ _ (hb_22)) hsz_22 hex_22) ((hI.dropS [1])) (listed' := #[true, true, true, true, true, false, false, false]) rfl ?_; clear hE a; intro a hE
          refine d_one 5 hE rfl (by kernel_rfl) rfl (listed' := #[true, true, true, true, true, true, false, false]) rfl ?_
          refine f_lit (vs := [(0, _)]) (l := [_, _]) hE hI rfl rfl rfl rfl Tryd.underlying65 zs_69 rfl rfl rfl ?_
          clear hI hE a w; intro a b31 w hE hI
          refine ⟨fun _ => (hI.dropS [2, 0]), ?_⟩
          refine d_one 6 hE rfl (by kernel_rfl) rfl (listed' := #[true, true, true, true, true, true, true, false]) rfl ?_
          refine o_appendOR (R := EnR) (el := x_22) 2 0 hE hI rfl rfl rfl rfl rfl Tryd.underlying65 zsb_69 rfl rfl rfl hW1 rfl rfl (⟨_, _, rfl, hk_22, hv_22, hok_22⟩) (by simp [Value.oneCell']) (by have h9 : (wantE pre ((madeKv l l.length).take i)).length ≤ ((madeKv l l.length).take i).length := List.length_filter_le _ _; rw [List.length_take] at h9; omega) (by have h9 : (wantE pre ((madeKv l l.length).take i)).length ≤ ((madeKv l l.length).take i).length := List.length_filter_le _ _; rw [List.length_take] at h9; omega) ?_
          clear hI hE a w; intro v32 s33 w hO34 hI a hE
          obtain ⟨A35, c36, rfl, _⟩ := hO34.slice
          replace hI := hI.erase 0
          try simp only [splice, insAt, List.set_cons_succ, List.set_cons_zero, List.setIfInBounds_toArray, Value.cells, List.eraseIdx_cons_succ, List.eraseIdx_cons_zero, List.eraseIdx_zero, List.tail_cons] at hI
          refine ⟨fun _ => (hI.dropS [1]), ?_⟩
          refine d_one 7 hE rfl (by kernel_rfl) rfl (listed' := #[true, true, true, true, true, true, true, true]) rfl ?_
          refine f_store (l := [_]) (ss' := _ :: _) 0 hE hI rfl rfl rfl rfl rfl sz_65 (by simp [Value.cells, Value.oneCell', pgCells, rcCells, zPg]) rfl rfl rfl ?_
          clear hI w; intro w hI
          refine ⟨(fun h => Bool.noConfusion (show false = true from h)), ?_⟩
          refine d_done (by kernel_rfl) ?_
          refine x_blk_normal ?_
          refine x_then_normal ?_
          refine x_region_list (by kernel_rfl) (fun _ _ h => h) ?_
          refine qm hE rfl rfl rfl rfl rfl ?_; clear hE a; intro a hE
          refine qs hE rfl rfl rfl (p_arith (z := ((i + 1 : Nat) : Int)) rfl rfl (add_z (by omega) (by omega) (by omega))) ?_; clear hE a; intro a hE
          refine qa hE rfl rfl rfl rfl rfl ?_; clear hE a; intro a hE
          refine wpList_nil ?_
          refine x_then_normal ?_
          replace hI := hI.bring 3
          replace hI := hI.bring 3
          replace hI := hI.bring 3
          replace hI := hI.bring 3
          have hw9 : wantE pre ((madeKv l l.length).take (i + 1)) = ((wantE pre ((madeKv l l.length).take i)) ++ [x_22]) := by rw [want_snoc hx_22, if_pos (by simp only [begB, Bool.and_eq_true, decide_eq_true_eq]; exact ⟨by omega, by simpa using hsm30⟩)]
          exact ⟨rfl, (i + 1, _, _), hE.pick [0, 1, 2, 6, 7, 8, 9, 10, 11], ⟨by show i + 1 ≤ _; omega, OR.at_eq hO34 hw9.symm, hI⟩, by show (madeKv l l.length).length - (i + 1) < (madeKv l l.length).length - i; omega⟩
        refine qs hE rfl rfl rfl (p_pick (b := true) rfl rfl) ?_; clear hE a; intro a hE
        refine wpList_nil ?_
        refine x_then_normal ?_
        refine x_false hE rfl ?_
        refine x_skip ?_
        refine x_blk_normal ?_
        refine x_then_normal ?_
        refine x_region_list (by kernel_rfl) (fun _ _ h => h) ?_
        refine qm hE rfl rfl rfl rfl rfl ?_; clear hE a; intro a hE
        refine qs hE rfl rfl rfl (p_arith (z := ((i + 1 : Nat) : Int)) rfl rfl (add_z (by omega) (by omega) (by omega))) ?_; clear hE a; intro a hE
        refine qa hE rfl rfl rfl rfl rfl ?_; clear hE a; intro a hE
        refine wpList_nil ?_
        refine x_then_normal ?_
        replace hI := hI.bring 3
        replace hI := hI.bring 3
        replace hI := hI.bring 3
        replace hI := hI.bring 3
        have hw9 : wantE pre ((madeKv l l.length).take (i + 1)) = (wantE pre ((madeKv l l.length).take i)) := by rw [want_snoc hx_22, if_neg (by simp only [begB, Bool.and_eq_true, decide_eq_true_eq]; rintro ⟨_, q⟩; exact hsm30 (by simpa using q))]
        exact ⟨rfl, (i + 1, _, _), hE.pick [0, 1, 2, 6, 7, 8, 9, 10, 11], ⟨by show i + 1 ≤ _; omega, OR.at_eq hW1 hw9.symm, hI⟩, by show (madeKv l l.length).length - (i + 1) < (madeKv l l.length).length - i; omega⟩
      intro hpk; replace hpk := geq_f hpk; clear hE a; intro a hE
      refine qm hE rfl rfl rfl rfl rfl ?_; clear hE a; intro a hE
      refine l_skip hE rfl rfl rfl ?_; clear hE a; intro a hE
      refine l_skip hE rfl rfl rfl ?_; clear hE a; intro a hE
      refine l_skip hE rfl rfl rfl ?_; clear hE a; intro a hE
      refine l_skip hE rfl rfl rfl ?_; clear hE a; intro a hE
      refine l_skip hE rfl rfl rfl ?_; clear hE a; intro a hE
      refine l_skip hE rfl rfl rfl ?_; clear hE a; intro a hE
      refine l_skip hE rfl rfl rfl ?_; clear hE a; intro a hE
      refine l_skip hE rfl rfl rfl ?_; clear hE a; intro a hE
      refine l_skip hE rfl rfl rfl ?_; clear hE a; intro a hE
      refine l_skip hE rfl rfl rfl ?_; clear hE a; intro a hE
      refine qs hE rfl rfl rfl (p_pick (b := false) rfl rfl) ?_; clear hE a; intro a hE
      refine wpList_nil ?_
      refine x_then_normal ?_
      refine x_false hE rfl ?_
      refine x_skip ?_
      refine x_blk_normal ?_
      refine x_then_normal ?_
      refine x_region_list (by kernel_rfl) (fun _ _ h => h) ?_
      refine qm hE rfl rfl rfl rfl rfl ?_; clear hE a; intro a hE
      refine qs hE rfl rfl rfl (p_arith (z := ((i + 1 : Nat) : Int)) rfl rfl (add_z (by omega) (by omega) (by omega))) ?_; clear hE a; intro a hE
      refine qa hE rfl rfl rfl rfl rfl ?_; clear hE a; intro a hE
      refine wpList_nil ?_
      refine x_then_normal ?_
      replace hI := hI.bring 3
      replace hI := hI.bring 3
      replace hI := hI.bring 3
      replace hI := hI.bring 3
      have hw9 : wantE pre ((madeKv l l.length).take (i + 1)) = (wantE pre ((madeKv l l.length).take i)) := by rw [want_snoc hx_22, if_neg (by simp only [begB, Bool.and_eq_true, decide_eq_true_eq]; rintro ⟨q, _⟩; omega)]
      exact ⟨rfl, (i + 1, _, _), hE.pick [0, 1, 2, 6, 7, 8, 9, 10, 11], ⟨by show i + 1 ≤ _; omega, OR.at_eq hW1 hw9.symm, hI⟩, by show (madeKv l l.length).length - (i + 1) < (madeKv l l.length).length - i; omega⟩
    intro hlt; replace hlt := lss_f hlt; clear hE a; intro a hE
    refine wpList_nil ?_
    refine x_then_normal ?_
    refine x_false hE rfl ?_
    refine x_exit ?_
    refine x_then_exit ?_
    refine x_then_exit ?_
    refine x_blk_same ?_
    refine x_then_normal ?_
    refine x_seq ?_
    have hi9 : i = (madeKv l l.length).length := by omega
    have hw9 : wantE pre ((madeKv l l.length).take i) = wantE pre (madeKv l l.length) := by rw [hi9, List.take_length]
    obtain ⟨D37, hD38, hIh, hDR39⟩ := Inv.shutOR 1 hI rfl EnR.keeps hW1
    replace hI := hIh
    clear hIh
    try simp only [splice, insAt, List.set_cons_succ, List.set_cons_zero, List.setIfInBounds_toArray, Value.cells, List.eraseIdx_cons_succ, List.eraseIdx_cons_zero, List.eraseIdx_zero, List.tail_cons] at hI
    rw [hw9] at hI hDR39
    have hso := hO17.sorted
    refine x_region_list (by kernel_rfl) (fun _ _ h => h) ?_
    refine l_step rfl (f_alloc (cs := #[.int .i64 0]) hE hI rfl rfl rfl zer_3 rfl ?_)
    clear hI hE a w; intro a b40 w hE hI
    refine l_step rfl (f_store (l := [_]) (ss' := _ :: _) 0 hE hI rfl rfl rfl rfl rfl sz_3 (by simp [Value.cells, Value.oneCell', pgCells, rcCells, zPg]) rfl rfl rfl ?_)
    clear hI w; intro w hI
    refine wpList_nil ?_
    refine x_then_normal ?_
    refine x_seq ?_
    refine x_seq ?_
    refine x_region_list (by kernel_rfl) (fun _ _ h => h) ?_
    refine qm hE rfl rfl rfl rfl rfl ?_; clear hE a; intro a hE
    refine qm hE rfl rfl rfl rfl rfl ?_; clear hE a; intro a hE
    refine l_step rfl (o_call hE rfl rfl rfl rfl ent_44 (Prefix_spec (pre := pre) hI (hS.mono ((hD7.trans hD15).trans hD38)) hO17 (hp.mono ((hD7.trans hD15).trans hD38)) (by omega) rfl) ?_)
    clear hI hE a
    rintro r w ⟨D41, hD42, hq43, hI⟩ a hE
    obtain ⟨fq44, capq45, rfl, hfq46, hcall47⟩ := hq43
    refine wpList_nil ?_
    refine x_then_normal ?_
    refine x_block ?_
    refine x_range hE hI rfl hfq46 ?_
    clear hI w; intro fn48 lp48 kd48 tm48 rr48 w hT48 hR48 hI
    replace hI := hI.bring 5
    refine (hcall47 _ _ _ [_, _, _, _, _] _ sp13 lp48 (fun i48 D48 ms48 => ms48 = [[(lp48, .loop rr48)], [(kd48, .deferred (some []))], [(b40, .cells #[.int .i64 (i48 : Nat)] 3 (0, 0))], [(b21, .cells #[.slice Aw ((wantE pre (madeKv l l.length))).length cw] 65 (0, 0))], [(b5, .cells #[.bool false] 4 (0, 0))]] ∧ ∀ j, j < i48 → ∃ x, (madeKv l l.length)[fromK pre false (madeKv l l.length) + j]? = some x ∧ begB pre x.1 = true) (fun _ _ _ => False) (Le.refl _) hI (hP16.mono (hD38.trans hD42)) ⟨fun _ _ _ _ _ h => h, ?_⟩ ⟨rfl, fun j hj => absurd hj (Nat.not_lt_zero _)⟩).mono ?_
    · clear hI hE a w
      intro i48 e48 D48 ms48 sp48 rest48 w vk48 vv48 he48 htl48 hD48 hJ48 hP48 hk48 hv48 hI
      obtain ⟨hJ8, hfacts48⟩ := hJ48
      have hJ8 : ms48 = _ := hJ8
      subst hJ8
      simp only [List.cons_append, List.nil_append] at hI
      subst hR48
      obtain ⟨Ak48, ck48, rfl, _⟩ := hk48.slice
      obtain ⟨Av48, cv48, rfl, _⟩ := hv48.slice
      have hlt48 := (List.getElem?_eq_some_iff.1 he48).1
      have hwb9 : ∀ j, j < i48 + 1 → ∃ x, (madeKv l l.length)[fromK pre false (madeKv l l.length) + j]? = some x ∧ begB pre x.1 = true := fun j hj => by
        rcases Nat.lt_or_eq_of_le (Nat.lt_succ_iff.1 hj) with hj | rfl
        · exact hfacts48 j hj
        exact ⟨_, he48, htl48⟩
      have hwa48 := want_at hwb9
      refine ⟨_, hI.seg 1 rfl, rfl, x_round2 hT48 rfl rfl rfl rfl ?_⟩
      intro a hE
      clear hT48
      refine x_seq ?_
      refine x_region_list (by kernel_rfl) (fun _ _ h => h) ?_
      refine l_step rfl (f_alloc (cs := #[.slice none 0 0, .slice none 0 0]) hE hI rfl rfl rfl zer_69 rfl ?_)
      clear hI hE a w; intro a b49 w hE hI
      refine l_step rfl (f_store (l := [_, _]) (ss' := _ :: _) 0 hE hI rfl rfl rfl rfl rfl sz_69 (by simp [Value.cells, Value.oneCell', pgCells, rcCells, zPg]) rfl rfl rfl ?_)
      clear hI w; intro w hI
      refine wpList_nil ?_
      refine x_then_normal ?_
      refine x_region_list (by kernel_rfl) (fun _ _ h => h) ?_
      refine qa hE rfl rfl rfl rfl rfl ?_; clear hE a; intro a hE
      refine wpList_nil ?_
      refine x_begin 2 hI rfl rfl ?_
      clear hI w; intro w hI
      try simp only [splice, insAt, List.set_cons_succ, List.set_cons_zero, List.setIfInBounds_toArray, Value.cells, List.eraseIdx_cons_succ, List.eraseIdx_cons_zero, List.eraseIdx_zero, List.tail_cons] at hI
      refine x_block ?_
      refine x_seq ?_
      refine x_seq ?_
      refine x_start [] [] (by kernel_rfl) (by kernel_rfl) (fun _ _ h => h) hI rfl rfl ?_
      clear hI w; intro w hI
      refine d_pure 0 hE rfl (by kernel_rfl) (by kernel_rfl) (by kernel_rfl) rfl (fun _ _ _ h => h) rfl rfl rfl (p_move rfl) (fun _ => hI) (listed' := #[true, false, false, false, false, false, false, false, false, false, false, false, false, false, false, false, false]) rfl ?_; clear hE a; intro a hE
      refine d_pure 1 hE rfl (by kernel_rfl) (by kernel_rfl) (by kernel_rfl) rfl (fun _ _ _ h => h) rfl rfl rfl (p_ifaceNil Tryd.underlying25 rfl rfl rfl) (fun _ => hI) (listed' := #[true, true, false, false, false, false, false, false, false, false, false, false, false, false, false, false, false]) rfl ?_; clear hE a; intro a hE
      refine d_pure 2 hE rfl (by kernel_rfl) (by kernel_rfl) (by kernel_rfl) rfl (fun _ _ _ h => h) rfl rfl rfl (p_move rfl) (fun _ => hI) (listed' := #[true, true, true, false, false, false, false, false, false, false, false, false, false, false, false, false, false]) rfl ?_; clear hE a; intro a hE
      refine d_load 3 hE rfl (by kernel_rfl) (by kernel_rfl) (by kernel_rfl) (by kernel_rfl) (by kernel_rfl) rfl rfl (fun _ _ _ h => h) rfl rfl rfl (fun w hS => f_load rfl scal_3 (Inv.seg 4 hS rfl) rfl) (hI) (listed' := #[true, true, true, true, false, false, false, false, false, false, false, false, false, false, false, false, false]) rfl ?_; clear hE a; intro a hE
      refine d_load 4 hE rfl (by kernel_rfl) (by kernel_rfl) (by kernel_rfl) (by kernel_rfl) (by kernel_rfl) rfl rfl (fun _ _ _ h => h) rfl rfl rfl (fun w hS => f_load rfl scal_65 (Inv.seg 5 hS rfl) rfl) (hI) (listed' := #[true, true, true, true, true, false, false, false, false, false, false, false, false, false, false, false, false]) rfl ?_; clear hE a; intro a hE
      refine d_pure 5 hE rfl (by kernel_rfl) (by kernel_rfl) (by kernel_rfl) rfl (fun _ _ _ h => h) rfl rfl rfl (p_len rfl rfl Tryd.underlying65) (fun _ => hI) (listed' := #[true, true, true, true, true, true, false, false, false, false, false, false, false, false, false, false, false]) rfl ?_; clear hE a; intro a hE
      refine d_pure 6 hE rfl (by kernel_rfl) (by kernel_rfl) (by kernel_rfl) rfl (fun _ _ _ h => h) rfl rfl rfl (p_cmp rfl rfl (geq_n (by omega))) (fun _ => hI) (listed' := #[true, true, true, true, true, true, true, false, false, false, false, false, false, false, false, false, false]) rfl ?_; clear hE a; intro a hE
      refine d_pure 7 hE rfl (by kernel_rfl) (by kernel_rfl) (by kernel_rfl) rfl (fun _ _ _ h => h) rfl rfl rfl (p_pick (b := false) rfl rfl) (fun _ => hI) (listed' := #[true, true, true, true, true, true, true, true, false, false, false, false, false, false, false, false, false]) rfl ?_; clear hE a; intro a hE
      refine d_pure 8 hE rfl (by kernel_rfl) (by kernel_rfl) (by kernel_rfl) rfl (fun _ _ _ h => h) rfl rfl rfl (p_move rfl) (fun _ => hI) (listed' := #[true, true, true, true, true, true, true, true, true, false, false, false, false, false, false, false, false]) rfl ?_; clear hE a; intro a hE
      refine d_load 9 hE rfl (by kernel_rfl) (by kernel_rfl) (by kernel_rfl) (by kernel_rfl) (by kernel_rfl) rfl rfl (fun _ _ _ h => h) rfl rfl rfl (fun w hS => f_loadA (vs := [_, _]) rfl agg_69 (Inv.seg 0 hS rfl) rfl rfl) (hI) (listed' := #[true, true, true, true, true, true, true, true, true, true, false, false, false, false, false, false, false]) rfl ?_; clear hE a; intro a hE
      refine d_load 10 hE rfl (by kernel_rfl) (by kernel_rfl) (by kernel_rfl) (by kernel_rfl) (by kernel_rfl) rfl rfl (fun _ _ _ h => h) rfl rfl rfl (fun w hS => f_load rfl scal_65 (Inv.seg 5 hS rfl) rfl) (hI) (listed' := #[true, true, true, true, true, true, true, true, true, true, true, false, false, false, false, false, false]) rfl ?_; clear hE a; intro a hE
      refine d_load 11 hE rfl (by kernel_rfl) (by kernel_rfl) (by kernel_rfl) (by kernel_rfl) (by kernel_rfl) rfl rfl (fun _ _ _ h => h) rfl rfl rfl (fun w hS => f_load rfl scal_3 (Inv.seg 4 hS rfl) rfl) (hI) (listed' := #[true, true, true, true, true, true, true, true, true, true, true, true, false, false, false, false, false]) rfl ?_; clear hE a; intro a hE
      obtain ⟨x_50, hx_50⟩ : ∃ z9, ((wantE pre (madeKv l l.length)))[i48]? = some z9 := ⟨_, List.getElem?_eq_getElem (by omega)⟩
      obtain ⟨b_50, o_50, cs_50, T_50, fr_50, rfl, hb_50, hat_50⟩ := hDR39.at_ (by intro h0; rw [h0] at hx_50; simp at hx_50)
      obtain ⟨vs_50, hl_50, ⟨k_50, v_50, rfl, hk_50, hv_50, hok_50⟩, hex_50, hsz_50, hce_50⟩ := hat_50.extract hx_50 (by omega)
      obtain ⟨A51, c52, rfl, _⟩ := hk_50.slice
      obtain ⟨A53, c54, rfl, _⟩ := hv_50.slice
      refine d_pure 12 hE rfl (by kernel_rfl) (by kernel_rfl) (by kernel_rfl) rfl (fun _ _ _ h => h) rfl rfl rfl (p_indexAddr (m := o_50 + i48 * 2) rfl rfl Tryd.underlying65 sz_69 (by omega) (by omega) (by simp)) (fun _ => hI) (listed' := #[true, true, true, true, true, true, true, true, true, true, true, true, true, false, false, false, false]) rfl ?_; clear hE a; intro a hE
      refine d_load 13 hE rfl (by kernel_rfl) (by kernel_rfl) (by kernel_rfl) (by kernel_rfl) (by kernel_rfl) rfl rfl (fun _ _ _ h => h) rfl rfl rfl (fun w hS => r_loadA rfl agg_69 (Inv.data hS _ _ ((hD42.trans hD48) _ _ (hb_50))) hsz_50 hex_50) (hI) (listed' := #[true, true, true, true, true, true, true, true, true, true, true, true, true, true, false, false, false]) rfl ?_; clear hE a; intro a hE
      refine d_one 14 hE rfl (by kernel_rfl) rfl (listed' := #[true, true, true, true, true, true, true, true, true, true, true, true, true, true, true, false, false]) rfl ?_
      have heqhse55 : e48 = x_50 := (by have h9 := hx_50; rw [hwa48.1, he48] at h9; injection h9)
      have hlehse55 : (e48).1.length ≤ 32 ∧ (e48).2.length = 1 := hents _ (List.mem_of_getElem? he48)
      refine o_call hE rfl rfl rfl rfl ent_42 (SameEntry_spec (e1 := e48) (e2 := x_50) hI hk48 hv48 (hk_50.mono (hD42.trans hD48)) (hv_50.mono (hD42.trans hD48)) (by omega) (by omega)) ?_
      clear hI hE a
      rintro r w h a hE; rcases h with ⟨rfl, hse55, hI⟩ | ⟨rfl, hse55, hI⟩
      · skip
        refine ⟨fun _ => hI, ?_⟩
        refine d_pure 15 hE rfl (by kernel_rfl) (by kernel_rfl) (by kernel_rfl) rfl (fun _ _ _ h => h) rfl rfl rfl (p_not rfl) (fun _ => hI) (listed' := #[true, true, true, true, true, true, true, true, true, true, true, true, true, true, true, true, false]) rfl ?_; clear hE a; intro a hE
        refine d_pure 16 hE rfl (by kernel_rfl) (by kernel_rfl) (by kernel_rfl) rfl (fun _ _ _ h => h) rfl rfl rfl (p_pick (b := false) rfl rfl) (fun _ => hI) (listed' := #[true, true, true, true, true, true, true, true, true, true, true, true, true, true, true, true, true]) rfl ?_; clear hE a; intro a hE
        refine d_done (by kernel_rfl) ?_
        refine x_then_normal ?_
        refine x_false hE rfl ?_
        refine x_skip ?_
        refine x_then_normal ?_
        refine x_region_list (by kernel_rfl) (fun _ _ h => h) ?_
        refine ql hE rfl rfl rfl (f_load rfl scal_3 (hI.seg 4 rfl) rfl) ?_; clear hE a; intro a hE
        refine qs hE rfl rfl rfl (p_arith (z := ((i48 + 1 : Nat) : Int)) rfl rfl (add_z (by omega) (by omega) (by omega))) ?_; clear hE a; intro a hE
        refine l_step rfl (f_store (l := [_]) (ss' := _ :: _ :: _ :: _ :: _ :: _) 4 hE hI rfl rfl rfl rfl rfl sz_3 (by simp [Value.cells, Value.oneCell', pgCells, rcCells, zPg]) rfl rfl rfl ?_)
        clear hI w; intro w hI
        refine wpList_nil ?_
        refine x_blk_normal ?_
        refine x_endN 2 hI rfl ?_
        clear hI w; intro w hI
        try simp only [splice, insAt, List.set_cons_succ, List.set_cons_zero, List.setIfInBounds_toArray, Value.cells, List.eraseIdx_cons_succ, List.eraseIdx_cons_zero, List.eraseIdx_zero, List.tail_cons] at hI
        replace hI := hI.erase 0
        replace hI := hI.bring 5
        replace hI := hI.bring 5
        replace hI := hI.bring 5
        replace hI := hI.bring 5
        replace hI := hI.bring 5
        replace hI := hI.bring 5
        exact ⟨true, D48, _, sp48, rfl, (Le.refl _), (fun _ => ⟨rfl, hwb9⟩), (fun h => by cases h), hP48, hI⟩
      exfalso
      exact hse55 ⟨by rw [heqhse55], by rw [heqhse55]⟩
    rintro _ w ⟨_, rfl, i48, D48, ms48, sp48, hD48, hor48, hP48, hI⟩
    rcases hor48 with ⟨hJ48, hdone48⟩ | hX48
    · skip
      obtain ⟨hJ8, hfacts48⟩ := hJ48
      have hJ8 : ms48 = _ := hJ8
      subst hJ8
      simp only [List.cons_append, List.nil_append] at hI
      subst hR48
      refine x_done (s := .ready) 1 hI rfl (fun h => by cases h) ?_
      clear hI w; intro w hI
      try simp only [splice, insAt, List.set_cons_succ, List.set_cons_zero, List.setIfInBounds_toArray, Value.cells, List.eraseIdx_cons_succ, List.eraseIdx_cons_zero, List.eraseIdx_zero, List.tail_cons] at hI
      refine x_blk_normal ?_
      refine x_then_normal ?_
      refine x_seq ?_
      refine x_seq ?_
      have hn9 := (want_done hso hdone48).2
      refine x_region_list (by kernel_rfl) (fun _ _ h => h) ?_
      refine ql hE rfl rfl rfl (f_load rfl scal_3 (hI.seg 2 rfl) rfl) ?_; clear hE a; intro a hE
      refine ql hE rfl rfl rfl (f_load rfl scal_65 (hI.seg 3 rfl) rfl) ?_; clear hE a; intro a hE
      refine qs hE rfl rfl rfl (p_len rfl rfl Tryd.underlying65) ?_; clear hE a; intro a hE
      refine qs hE rfl rfl rfl (p_cmp rfl rfl (neq_n (by omega))) ?_; clear hE a; intro a hE
      refine qm hE rfl rfl rfl rfl rfl ?_; clear hE a; intro a hE
      refine l_go hE rfl (o_pure hE rfl rfl (f_load rfl scal_3 (hI.seg 2 rfl) rfl) ?_); clear hE a; intro a hE
      refine l_go hE rfl (o_cmp hE rfl rfl rfl rfl rfl rfl ?_ ?_)
      · intro hi0; replace hi0 := eql_t hi0; clear hE a; intro a hE
        refine qs hE rfl rfl rfl (p_pick (b := false) rfl rfl) ?_; clear hE a; intro a hE
        refine wpList_nil ?_
        refine x_then_normal ?_
        refine x_true hE rfl ?_
        refine x_seq ?_
        refine x_region_list (by kernel_rfl) (fun _ _ h => h) ?_
        refine ql hE rfl rfl rfl (f_load rfl scal_3 (hI.seg 2 rfl) rfl) ?_; clear hE a; intro a hE
        refine ql hE rfl rfl rfl (f_load rfl scal_65 (hI.seg 3 rfl) rfl) ?_; clear hE a; intro a hE
        refine qs hE rfl rfl rfl (p_len rfl rfl Tryd.underlying65) ?_; clear hE a; intro a hE
        refine qs hE rfl rfl rfl (p_cmp rfl rfl (eql_y (by omega))) ?_; clear hE a; intro a hE
        refine l_step rfl (f_store (l := [_]) (ss' := _ :: _ :: _ :: _ :: _ :: _) 4 hE hI rfl rfl rfl rfl rfl sz_4 (by simp [Value.cells, Value.oneCell', pgCells, rcCells, zPg]) rfl rfl rfl ?_)
        clear hI w; intro w hI
        refine wpList_nil ?_
        refine x_then_normal ?_
        refine x_ret ?_
        refine x_then_ret ?_
        refine x_mark 1 hI rfl ?_
        clear hI w; intro w hI
        replace hI := hI.erase 1
        try simp only [splice, insAt, List.set_cons_succ, List.set_cons_zero, List.setIfInBounds_toArray, Value.cells, List.eraseIdx_cons_succ, List.eraseIdx_cons_zero, List.eraseIdx_zero, List.tail_cons] at hI
        refine x_fin ?_
        refine retcs rfl hE rfl scal_4 (hI.seg 3 rfl) ?_
        exact ⟨rfl, _, ((((hD7.trans hD15).trans hD38).trans hD42).trans hD48), hI.drop.drop.drop.drop⟩
      intro hi0; replace hi0 := eql_f hi0; clear hE a; intro a hE
      refine qs hE rfl rfl rfl (p_pick (b := false) rfl rfl) ?_; clear hE a; intro a hE
      refine wpList_nil ?_
      refine x_then_normal ?_
      refine x_false hE rfl ?_
      refine x_skip ?_
      refine x_then_normal ?_
      refine x_seq ?_
      refine x_region_list (by kernel_rfl) (fun _ _ h => h) ?_
      refine qm hE rfl rfl rfl rfl rfl ?_; clear hE a; intro a hE
      refine ql hE rfl rfl rfl (f_load rfl scal_3 (hI.seg 2 rfl) rfl) ?_; clear hE a; intro a hE
      refine l_step rfl (o_call hE rfl rfl rfl rfl ent_20 (Number_spec (m := (i48 : Nat)) hI _ (by omega) (by omega)) ?_)
      clear hI hE a
      rintro r w ⟨⟨z56, rfl, hz57, hz58⟩, hI⟩ a hE
      obtain ⟨kn, rfl⟩ : ∃ n : Nat, z56 = n := ⟨z56.toNat, by omega⟩
      refine l_step rfl (f_alloc (cs := #[.int .i64 0]) hE hI rfl rfl rfl zer_3 rfl ?_)
      clear hI hE a w; intro a b59 w hE hI
      refine l_step rfl (f_store (l := [_]) (ss' := _ :: _) 0 hE hI rfl rfl rfl rfl rfl sz_3 (by simp [Value.cells, Value.oneCell', pgCells, rcCells, zPg]) rfl rfl rfl ?_)
      clear hI w; intro w hI
      refine wpList_nil ?_
      refine x_then_normal ?_
      refine x_seq ?_
      refine x_region_list (by kernel_rfl) (fun _ _ h => h) ?_
      refine l_step rfl (f_alloc (cs := #[.int .i64 0]) hE hI rfl rfl rfl zer_3 rfl ?_)
      clear hI hE a w; intro a b60 w hE hI
      refine l_step rfl (f_store (l := [_]) (ss' := _ :: _) 0 hE hI rfl rfl rfl rfl rfl sz_3 (by simp [Value.cells, Value.oneCell', pgCells, rcCells, zPg]) rfl rfl rfl ?_)
      clear hI w; intro w hI
      refine wpList_nil ?_
      refine x_then_normal ?_
      refine x_seq ?_
      refine x_seq ?_
      refine x_region_list (by kernel_rfl) (fun _ _ h => h) ?_
      refine qm hE rfl rfl rfl rfl rfl ?_; clear hE a; intro a hE
      refine qm hE rfl rfl rfl rfl rfl ?_; clear hE a; intro a hE
      refine l_step rfl (o_call hE rfl rfl rfl rfl ent_44 (Prefix_spec (pre := pre) hI (hS.mono ((((hD7.trans hD15).trans hD38).trans hD42).trans hD48)) hO17 (hp.mono ((((hD7.trans hD15).trans hD38).trans hD42).trans hD48)) (by omega) rfl) ?_)
      clear hI hE a
      rintro r w ⟨D61, hD62, hq63, hI⟩ a hE
      obtain ⟨fq64, capq65, rfl, hfq66, hcall67⟩ := hq63
      refine wpList_nil ?_
      refine x_then_normal ?_
      refine x_block ?_
      refine x_range hE hI rfl hfq66 ?_
      clear hI w; intro fn68 lp68 kd68 tm68 rr68 w hT68 hR68 hI
      replace hI := hI.bring 4
      refine (hcall67 _ _ _ [_, _, _, _, _, _, _, _] _ sp48 lp68 (fun i68 D68 ms68 => ms68 = [[(lp68, .loop rr68)], [(kd68, .deferred (some []))], [(b60, .cells #[.int .i64 (i68 : Nat)] 3 (0, 0))], [(b59, .cells #[.int .i64 (kn : Nat)] 3 (0, 0))], [(kd48, .deferred (some []))], [(b40, .cells #[.int .i64 (i48 : Nat)] 3 (0, 0))], [(b21, .cells #[.slice Aw ((wantE pre (madeKv l l.length))).length cw] 65 (0, 0))], [(b5, .cells #[.bool false] 4 (0, 0))]] ∧ i68 ≤ kn) (fun i68 D68 ms68 => ms68 = [[(lp68, .loop { rr68 with state := .done, pending := some (.exit 4) })], [(kd68, .deferred (some []))], [(b60, .cells #[.int .i64 (i68 - 1 : Nat)] 3 (0, 0))], [(b59, .cells #[.int .i64 (kn : Nat)] 3 (0, 0))], [(kd48, .deferred (some []))], [(b40, .cells #[.int .i64 (i48 : Nat)] 3 (0, 0))], [(b21, .cells #[.slice Aw ((wantE pre (madeKv l l.length))).length cw] 65 (0, 0))], [(b5, .cells #[.bool false] 4 (0, 0))]] ∧ i68 - 1 = kn) (Le.refl _) hI (hP48.mono hD62) ⟨fun _ _ _ _ _ h => h, ?_⟩ ⟨rfl, Nat.zero_le _⟩).mono ?_
      · clear hI hE a w
        intro i68 e68 D68 ms68 sp68 rest68 w vk68 vv68 he68 htl68 hD68 hJ68 hP68 hk68 hv68 hI
        obtain ⟨hJ8, hfacts68⟩ := hJ68
        have hJ8 : ms68 = _ := hJ8
        subst hJ8
        simp only [List.cons_append, List.nil_append] at hI
        subst hR68
        obtain ⟨Ak68, ck68, rfl, _⟩ := hk68.slice
        obtain ⟨Av68, cv68, rfl, _⟩ := hv68.slice
        have hlt68 := (List.getElem?_eq_some_iff.1 he68).1
        refine ⟨_, hI.seg 1 rfl, rfl, x_round2 hT68 rfl rfl rfl rfl ?_⟩
        intro a hE
        clear hT68
        refine x_skip ?_
        refine x_begin 1 hI rfl rfl ?_
        clear hI w; intro w hI
        try simp only [splice, insAt, List.set_cons_succ, List.set_cons_zero, List.setIfInBounds_toArray, Value.cells, List.eraseIdx_cons_succ, List.eraseIdx_cons_zero, List.eraseIdx_zero, List.tail_cons] at hI
        refine x_block ?_
        refine x_seq ?_
        refine x_seq ?_
        refine x_region_list (by kernel_rfl) (fun _ _ h => h) ?_
        refine ql hE rfl rfl rfl (f_load rfl scal_3 (hI.seg 3 rfl) rfl) ?_; clear hE a; intro a hE
        refine ql hE rfl rfl rfl (f_load rfl scal_3 (hI.seg 4 rfl) rfl) ?_; clear hE a; intro a hE
        refine l_step rfl (o_cmp hE rfl rfl rfl rfl rfl rfl ?_ ?_)
        · intro hjk; replace hjk := eql_t hjk; clear hE a; intro a hE
          refine wpList_nil ?_
          refine x_then_normal ?_
          refine x_true hE rfl ?_
          refine x_exit ?_
          refine x_then_exit ?_
          refine x_blk_other rfl ?_
          refine x_endE 1 hI rfl ?_
          clear hI w; intro w hI
          try simp only [splice, insAt, List.set_cons_succ, List.set_cons_zero, List.setIfInBounds_toArray, Value.cells, List.eraseIdx_cons_succ, List.eraseIdx_cons_zero, List.eraseIdx_zero, List.tail_cons] at hI
          replace hI := hI.bring 8
          replace hI := hI.bring 8
          replace hI := hI.bring 8
          replace hI := hI.bring 8
          replace hI := hI.bring 8
          replace hI := hI.bring 8
          replace hI := hI.bring 8
          replace hI := hI.bring 8
          replace hI := hI.bring 8
          exact ⟨false, D68, _, sp68, rfl, (Le.refl _), (fun h => by cases h), (fun _ => ⟨rfl, by omega⟩), hP68, hI⟩
        intro hjk; replace hjk := eql_f hjk; clear hE a; intro a hE
        refine wpList_nil ?_
        refine x_then_normal ?_
        refine x_false hE rfl ?_
        refine x_skip ?_
        refine x_then_normal ?_
        refine x_region_list (by kernel_rfl) (fun _ _ h => h) ?_
        refine ql hE rfl rfl rfl (f_load rfl scal_3 (hI.seg 3 rfl) rfl) ?_; clear hE a; intro a hE
        refine qs hE rfl rfl rfl (p_arith (z := ((i68 + 1 : Nat) : Int)) rfl rfl (add_z (by omega) (by omega) (by omega))) ?_; clear hE a; intro a hE
        refine l_step rfl (f_store (l := [_]) (ss' := _ :: _ :: _ :: _ :: _) 3 hE hI rfl rfl rfl rfl rfl sz_3 (by simp [Value.cells, Value.oneCell', pgCells, rcCells, zPg]) rfl rfl rfl ?_)
        clear hI w; intro w hI
        refine wpList_nil ?_
        refine x_blk_normal ?_
        refine x_endN 1 hI rfl ?_
        clear hI w; intro w hI
        try simp only [splice, insAt, List.set_cons_succ, List.set_cons_zero, List.setIfInBounds_toArray, Value.cells, List.eraseIdx_cons_succ, List.eraseIdx_cons_zero, List.eraseIdx_zero, List.tail_cons] at hI
        replace hI := hI.bring 8
        replace hI := hI.bring 8
        replace hI := hI.bring 8
        replace hI := hI.bring 8
        replace hI := hI.bring 8
        replace hI := hI.bring 8
        replace hI := hI.bring 8
        replace hI := hI.bring 8
        replace hI := hI.bring 8
        exact ⟨true, D68, _, sp68, rfl, (Le.refl _), (fun _ => ⟨rfl, by omega⟩), (fun h => by cases h), hP68, hI⟩
      rintro _ w ⟨_, rfl, i68, D68, ms68, sp68, hD68, hor68, hP68, hI⟩
      rcases hor68 with ⟨hJ68, hdone68⟩ | hX68
      · skip
        obtain ⟨hJ8, hfacts68⟩ := hJ68
        have hJ8 : ms68 = _ := hJ8
        subst hJ8
        simp only [List.cons_append, List.nil_append] at hI
        subst hR68
        exfalso
        have := done_unique hdone68 hdone48
        omega
      obtain ⟨hJ8, hfacts68⟩ := hX68
      have hJ8 : ms68 = _ := hJ8
      subst hJ8
      simp only [List.cons_append, List.nil_append] at hI
      subst hR68
      refine x_jump (s := .done) 1 hI rfl (fun h => by cases h) ?_
      clear hI w; intro w hI
      try simp only [splice, insAt, List.set_cons_succ, List.set_cons_zero, List.setIfInBounds_toArray, Value.cells, List.eraseIdx_cons_succ, List.eraseIdx_cons_zero, List.eraseIdx_zero, List.tail_cons] at hI
      refine x_exit ?_
      refine x_blk_same ?_
      refine x_then_normal ?_
      refine x_seq ?_
      refine x_region_list (by kernel_rfl) (fun _ _ h => h) ?_
      refine ql hE rfl rfl rfl (f_load rfl scal_3 (hI.seg 2 rfl) rfl) ?_; clear hE a; intro a hE
      refine ql hE rfl rfl rfl (f_load rfl scal_3 (hI.seg 3 rfl) rfl) ?_; clear hE a; intro a hE
      refine qs hE rfl rfl rfl (p_cmp rfl rfl (eql_y (by omega))) ?_; clear hE a; intro a hE
      refine l_step rfl (f_store (l := [_]) (ss' := _ :: _ :: _ :: _ :: _ :: _ :: _ :: _ :: _) 7 hE hI rfl rfl rfl rfl rfl sz_4 (by simp [Value.cells, Value.oneCell', pgCells, rcCells, zPg]) rfl rfl rfl ?_)
      clear hI w; intro w hI
      refine wpList_nil ?_
      refine x_then_normal ?_
      refine x_ret ?_
      refine x_mark 1 hI rfl ?_
      clear hI w; intro w hI
      replace hI := hI.erase 1
      try simp only [splice, insAt, List.set_cons_succ, List.set_cons_zero, List.setIfInBounds_toArray, Value.cells, List.eraseIdx_cons_succ, List.eraseIdx_cons_zero, List.eraseIdx_zero, List.tail_cons] at hI
      refine x_mark 3 hI rfl ?_
      clear hI w; intro w hI
      replace hI := hI.erase 3
      try simp only [splice, insAt, List.set_cons_succ, List.set_cons_zero, List.setIfInBounds_toArray, Value.cells, List.eraseIdx_cons_succ, List.eraseIdx_cons_zero, List.eraseIdx_zero, List.tail_cons] at hI
      refine x_fin ?_
      refine retcs rfl hE rfl scal_4 (hI.seg 5 rfl) ?_
      exact ⟨rfl, _, ((((((hD7.trans hD15).trans hD38).trans hD42).trans hD48).trans hD62).trans hD68), hI.drop.drop.drop.drop.drop.drop⟩
    exact hX48.elim
  replace hbf9 := iff_f hbf9
  refine qs hE rfl rfl rfl (p_not rfl) ?_; clear hE a; intro a hE
  refine qm hE rfl rfl rfl rfl rfl ?_; clear hE a; intro a hE
  refine l_skip hE rfl rfl rfl ?_; clear hE a; intro a hE
  refine l_skip hE rfl rfl rfl ?_; clear hE a; intro a hE
  refine l_skip hE rfl rfl rfl ?_; clear hE a; intro a hE
  refine qs hE rfl rfl rfl (p_pick (b := true) rfl rfl) ?_; clear hE a; intro a hE
  refine qm hE rfl rfl rfl rfl rfl ?_; clear hE a; intro a hE
  refine l_skip hE rfl rfl rfl ?_; clear hE a; intro a hE
  refine l_skip hE rfl rfl rfl ?_; clear hE a; intro a hE
  refine qs hE rfl rfl rfl (p_pick (b := true) rfl rfl) ?_; clear hE a; intro a hE
  refine wpList_nil ?_
  refine x_then_normal ?_
  refine x_true hE rfl ?_
  refine x_seq ?_
  refine x_region_list (by kernel_rfl) (fun _ _ h => h) ?_
  refine qm hE rfl rfl rfl rfl rfl ?_; clear hE a; intro a hE
  refine l_step rfl (f_store (l := [_]) (ss' := _ :: _) 0 hE hI rfl rfl rfl rfl rfl sz_4 (by simp [Value.cells, Value.oneCell', pgCells, rcCells, zPg]) rfl rfl rfl ?_)
  clear hI w; intro w hI
  refine wpList_nil ?_
  refine x_then_normal ?_
  refine x_ret ?_
  refine x_then_ret ?_
  refine x_fin ?_
  refine retcs rfl hE rfl scal_4 (hI.seg 0 rfl) ?_
  exact ⟨rfl, _, hD7, hI.drop⟩
end Go.Proofs.YtbogbnkckofpdaaDoor.B
