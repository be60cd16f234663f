/- What functions of the program compute, each function once: steps over the model, and the plain law of it. -/
import Derived.Test.YtbogbnkckofpdaaDoorTMade
namespace Go.Proofs.YtbogbnkckofpdaaDoor.B
open Go Go.Proofs
set_option linter.unusedVariables false
set_option linter.unusedSimpArgs false
set_option maxRecDepth 20000
set_option maxHeartbeats 8000000
namespace FTMade2
theorem agg_69 : aggSize Tryd.prog 69 = some 2 := by kernel_rfl
theorem built_69 : ∀ vs, Tryd.prog.built 69 vs = Instr.fill (([(0, 1), (1, 1)] : List (Nat × Nat)).toArray[·]?) ([.slice none 0 0, .slice none 0 0] : List Value).toArray vs := fun _ => by kernel_rfl
theorem ent_17 : enters Tryd.prog 17 = true := by kernel_rfl
theorem ent_18 : enters Tryd.prog 18 = true := by kernel_rfl
theorem ent_33 : enters Tryd.prog 33 = true := by kernel_rfl
theorem ent_34 : enters Tryd.prog 34 = true := by kernel_rfl
theorem ent_37 : enters Tryd.prog 37 = true := by kernel_rfl
theorem ent_48 : enters Tryd.prog 48 = true := by kernel_rfl
theorem ent_68 : enters Tryd.prog 68 = true := by kernel_rfl
theorem ent_79 : enters Tryd.prog 79 = true := by kernel_rfl
theorem ent_80 : enters Tryd.prog 80 = true := by kernel_rfl
theorem fo_69_0 : fieldOff Tryd.prog 69 0 = some 0 := by kernel_rfl
theorem scal_22 : isScal Tryd.prog 22 = true := by kernel_rfl
theorem sz_22 : (Tryd.prog.info? 22).map (·.size) = some 1 := by kernel_rfl
theorem sz_69 : (Tryd.prog.info? 69).map (·.size) = some 2 := by kernel_rfl
theorem zer_69 : (Tryd.prog.info? 69).bind (·.zero) = some (.agg #[.slice none 0 0, .slice none 0 0]) := by kernel_rfl
theorem zs_5 : (Tryd.prog.info? 5).map (fun i => (i.zero, i.size)) = some (some (.int .u8 0), 1) := by kernel_rfl
theorem zs_69 : (Tryd.prog.info? 69).map (fun i => (i.zero, i.size)) = some (some (.agg #[.slice none 0 0, .slice none 0 0]), 2) := by kernel_rfl
theorem zsb_69 : (Tryd.prog.info? 69).map (fun i => (i.zero, i.size, i.bytes)) = some (some (.agg #[.slice none 0 0, .slice none 0 0]), 2, 48) := by kernel_rfl
end FTMade2
open FTMade2
theorem OR.at_eq {D : Sto} {T : Nat} {v : Value} {xs ys : Ens} {s : Seg} (h : OR 2 EnR D T v xs s) (e : xs = ys) : OR 2 EnR D T v ys s := e ▸ h
theorem lit_one {w0 w : World} {D : Sto} {ss : List Seg} {b T n : Nat} {fr : Nat × Nat} (i : Nat) (hI : Inv w0 D ss w) (hn : n < 256) (hi : ss[i]? = some [(b, .cells [Value.int .u8 ((n : Nat) : Int)].toArray T fr)]) :
    ∃ D', Le D D' ∧ Inv w0 D' (ss.eraseIdx i) w ∧ RB D' (.slice (some ⟨b, 0, none⟩) 1 1) [n] := lit_data [n] i hI hi (by intro x hx; simp only [List.mem_cons, List.not_mem_nil, or_false] at hx; omega)
theorem made_spec {w0 w : World} {D : Sto} {ss : List Seg} (hI : Inv w0 D ss w) {ad : Nat → Addr} (hS : TSents D ad) {vl : Value} {l : List Bs} (hl : DR 1 BsR D vl l) (hll : l.length ≤ 600) :
    Calls Tryd.prog 39 #[vl] w (Ret fun r w' => ∃ D' q vh sp P, Le D D' ∧ r = .tuple #[.pointer (some ⟨q, 0, none⟩), vh] ∧ PoolS D' (.pointer (some ⟨q, 0, none⟩)) P sp ∧ PoolOk P (madeKv l l.length) ∧ DR 2 EnR D' vh (madeKv l l.length) ∧ Inv w0 D' (sp :: ss) w') := by
  obtain ⟨A1, c2, rfl, _⟩ := hl.slice
  refine enter (N := 108) Tryd.func39 rfl rfl rfl ?_
  intro a hE
  refine wsr ?_
  refine qa hE rfl rfl rfl rfl rfl ?_; clear hE a; intro a hE
  refine qa hE rfl rfl rfl rfl rfl ?_; clear hE a; intro a hE
  refine wnt ?_
  refine wsr ?_
  refine l_step rfl (o_call hE rfl rfl rfl rfl ent_68 (PoolNew_spec hI) ?_)
  clear hI hE a
  rintro r w ⟨s3, hP4, hI⟩ a hE
  obtain ⟨bp5, hbp⟩ := hP4.ptr
  subst hbp
  refine qa hE rfl rfl rfl rfl rfl ?_; clear hE a; intro a hE
  refine wnt ?_
  refine wp_seq ?_
  refine wsr ?_
  refine qm hE rfl rfl rfl rfl rfl ?_; clear hE a; intro a hE
  refine qs hE rfl rfl rfl (p_eq rfl rfl (g_none rfl) (e_ptrNil Tryd.underlying52 rfl) rfl rfl) ?_; clear hE a; intro a hE
  refine wnt ?_
  refine c_false hE rfl ?_
  refine wp_skip ?_
  refine then_normal ?_
  refine wsr ?_
  refine qm hE rfl rfl rfl rfl rfl ?_; clear hE a; intro a hE
  refine l_step rfl (o_call hE rfl rfl rfl rfl ent_48 (Make_spec hI) ?_)
  clear hI hE a
  rintro r w ⟨D6, hD7, hI, hL8⟩ a hE
  obtain ⟨A9, c10, rfl, _⟩ := hL8.slice
  refine l_step rfl (o_call hE rfl rfl rfl rfl ent_79 (lay_spec hI (hP4.mono hD7) (hS.mono hD7) hL8 (n := 1) (by omega) (by omega) (by show (3 : Nat) ≤ _; omega) E0_laid) ?_)
  clear hI hE a
  rintro r w ⟨D11, s12, hD13, rfl, hP14, hI⟩ a hE
  refine qa hE rfl rfl rfl rfl rfl ?_; clear hE a; intro a hE
  refine wnt ?_
  refine wsr ?_
  refine qm hE rfl rfl rfl rfl rfl ?_; clear hE a; intro a hE
  refine l_step rfl (o_call hE rfl rfl rfl rfl ent_33 (New_spec hI E0 (some ⟨bp5, 0, none⟩)) ?_)
  clear hI hE a
  rintro r w ⟨sb15, hB16, hI⟩ a hE
  obtain ⟨bb17, hvb⟩ := BatchS.ptr hB16
  subst hvb
  refine qa hE rfl rfl rfl rfl rfl ?_; clear hE a; intro a hE
  refine wnt ?_
  refine wsr ?_
  refine qa hE rfl rfl rfl rfl rfl ?_; clear hE a; intro a hE
  refine wnt ?_
  refine wp_seq ?_
  refine wsr ?_
  refine qa hE rfl rfl rfl rfl rfl ?_; clear hE a; intro a hE
  refine wnt ?_
  refine wp_block ?_
  replace hI := hI.bring 1
  replace hI := hI.bring 1
  replace hI : Inv w0 D11 (sb15 :: s12 :: ss) _ := hI
  replace hI : Inv w0 D11 (sb15 :: s12 :: [] :: ss) _ := hI.perm (List.Perm.of_eq (by simp))
  refine c_loop (X := Sto × Nat × Bt × Seg × Seg × Seg × Value) (fun x => [(0, _), (4, _), (5, _), (6, _), (7, x.2.2.2.2.2.2), (8, .int .i64 (x.2.1 : Nat))]) (fun x w => x.2.1 ≤ l.length ∧ Le D11 x.1 ∧ Runs (newBt E0) x.2.2.1 (601 * x.2.1) ∧ Holds x.2.2.1 (madeKv l x.2.1) ∧ BatchS x.1 (.pointer (some ⟨bb17, 0, none⟩)) (.pointer (some ⟨bp5, 0, none⟩)) x.2.2.1 x.2.2.2.1 ∧ PoolS x.1 (.pointer (some ⟨bp5, 0, none⟩)) E0 x.2.2.2.2.1 ∧ OR 2 EnR x.1 69 x.2.2.2.2.2.2 (madeKv l x.2.1) x.2.2.2.2.2.1 ∧ Inv w0 x.1 (x.2.2.2.1 :: x.2.2.2.2.1 :: x.2.2.2.2.2.1 :: ss) w) (fun x => l.length - x.2.1) (D11, 0, newBt E0, sb15, s12, [], _) (hE.pick [0, 4, 5, 6, 7, 8]) ⟨Nat.zero_le _, Le.refl _, Runs.refl _ _, E0_holds.2, hB16, hP14, OR.nil _ _ _ _, hI⟩ ?_
  clear hE hI a w
  rintro ⟨D1, i, b, sb, sp, sh, vh⟩ a w hE ⟨hi, hD1, hr, hh, hB1, hP1, hH1, hI⟩
  try dsimp only at hE
  try dsimp only at hi
  try dsimp only at hD1
  try dsimp only at hr
  try dsimp only at hh
  try dsimp only at hB1
  try dsimp only at hP1
  try dsimp only at hH1
  try dsimp only at hI
  obtain ⟨Ah, ch, rfl, _⟩ := hH1.slice
  refine wp_seq ?_
  refine wsr ?_
  refine qm hE rfl rfl rfl rfl rfl ?_; clear hE a; intro a hE
  refine qm hE rfl rfl rfl rfl rfl ?_; clear hE a; intro a hE
  refine qs hE rfl rfl rfl (p_len rfl rfl Tryd.underlying50) ?_; clear hE a; intro a hE
  refine l_step rfl (o_cmp hE rfl rfl rfl rfl rfl rfl ?_ ?_)
  · intro hlt; replace hlt := lss_t hlt; clear hE a; intro a hE
    refine wnt ?_
    refine c_true hE rfl ?_
    refine wp_skip ?_
    refine then_normal ?_
    refine wp_seq ?_
    refine wp_block ?_
    refine wsr ?_
    refine qm hE rfl rfl rfl rfl rfl ?_; clear hE a; intro a hE
    refine qm hE rfl rfl rfl rfl rfl ?_; clear hE a; intro a hE
    obtain ⟨x_18, hx_18⟩ : ∃ z9, (l)[i]? = some z9 := ⟨_, List.getElem?_eq_getElem (by omega)⟩
    obtain ⟨b_18, o_18, cs_18, T_18, fr_18, rfl, hb_18, hat_18⟩ := hl.at_ (by intro h0; rw [h0] at hx_18; simp at hx_18)
    obtain ⟨vs_18, hl_18, ⟨k_18, rfl, hk_18⟩, hex_18, hsz_18, hce_18⟩ := hat_18.extract hx_18 (by omega)
    obtain ⟨A19, c20, rfl, _⟩ := hk_18.slice
    refine qs hE rfl rfl rfl (p_indexAddr (m := o_18 + i * 1) rfl rfl Tryd.underlying50 sz_22 (by omega) (by omega) (by simp)) ?_; clear hE a; intro a hE
    refine ql hE rfl rfl rfl (r_load rfl scal_22 (hI.data _ _ (((hD7.trans hD13).trans hD1) _ _ (hb_18))) (hce_18 0 _ rfl)) ?_; clear hE a; intro a hE
    refine qa hE rfl rfl rfl rfl rfl ?_; clear hE a; intro a hE
    refine wnt ?_
    refine wp_seq ?_
    refine wsr ?_
    refine qm hE rfl rfl rfl rfl rfl ?_; clear hE a; intro a hE
    refine qs hE rfl rfl rfl (p_len rfl rfl Tryd.underlying22) ?_; clear hE a; intro a hE
    refine l_step rfl (o_cmp hE rfl rfl rfl rfl rfl rfl ?_ ?_)
    · intro hlen1; replace hlen1 := lss_t hlen1; clear hE a; intro a hE
      refine qm hE rfl rfl rfl rfl rfl ?_; clear hE a; intro a hE
      refine l_skip hE rfl rfl rfl ?_; clear hE a; intro a hE
      refine l_skip hE rfl rfl rfl ?_; clear hE a; intro a hE
      refine l_skip hE rfl rfl rfl ?_; clear hE a; intro a hE
      refine qs hE rfl rfl rfl (p_pick (b := true) rfl rfl) ?_; clear hE a; intro a hE
      refine wnt ?_
      refine c_true hE rfl ?_
      refine wp_exit ?_
      refine then_exit ?_
      refine blk_same ?_
      refine then_normal ?_
      refine wp_region_list ?_
      refine qm hE rfl rfl rfl rfl rfl ?_; clear hE a; intro a hE
      refine qs hE rfl rfl rfl (p_arith (z := ((i + 1 : Nat) : Int)) rfl rfl (add_z (by omega) (by omega) (by omega))) ?_; clear hE a; intro a hE
      refine qa hE rfl rfl rfl rfl rfl ?_; clear hE a; intro a hE
      refine wnt ?_
      replace hI := hI.bring 2
      replace hI := hI.bring 2
      replace hI := hI.bring 2
      have hkv9 := made_skip hx_18 (by omega)
      have hh9 : Holds b (madeKv l (i + 1)) := by rw [hkv9]; exact hh
      have hH9 : OR 2 EnR D1 69 (.slice Ah (madeKv l i).length ch) (madeKv l (i + 1)) sh := by rw [hkv9]; exact hH1
      exact ⟨(D1, i + 1, b, _, _, _, _), hE.pick [0, 4, 5, 6, 7, 8], ⟨by show i + 1 ≤ _; omega, hD1, hr.mono (by show _ ≤ 601 * (i + 1); omega), hh9, hB1, hP1, hH9, hI⟩, by show l.length - (i + 1) < l.length - i; omega⟩
    intro hlen1; replace hlen1 := lss_f hlen1; clear hE a; intro a hE
    refine qm hE rfl rfl rfl rfl rfl ?_; clear hE a; intro a hE
    refine l_go hE rfl (o_pure hE rfl rfl (p_move rfl).run ?_); clear hE a; intro a hE
    refine l_go hE rfl (o_pure hE rfl rfl (p_len rfl rfl Tryd.underlying22).run ?_); clear hE a; intro a hE
    refine l_go hE rfl (o_cmp hE rfl rfl rfl rfl rfl rfl ?_ ?_)
    · intro hlen2; replace hlen2 := gtr_t hlen2; clear hE a; intro a hE
      refine qs hE rfl rfl rfl (p_pick (b := false) rfl rfl) ?_; clear hE a; intro a hE
      refine wnt ?_
      refine c_true hE rfl ?_
      refine wp_exit ?_
      refine then_exit ?_
      refine blk_same ?_
      refine then_normal ?_
      refine wp_region_list ?_
      refine qm hE rfl rfl rfl rfl rfl ?_; clear hE a; intro a hE
      refine qs hE rfl rfl rfl (p_arith (z := ((i + 1 : Nat) : Int)) rfl rfl (add_z (by omega) (by omega) (by omega))) ?_; clear hE a; intro a hE
      refine qa hE rfl rfl rfl rfl rfl ?_; clear hE a; intro a hE
      refine wnt ?_
      replace hI := hI.bring 2
      replace hI := hI.bring 2
      replace hI := hI.bring 2
      have hkv9 := made_skip hx_18 (by omega)
      have hh9 : Holds b (madeKv l (i + 1)) := by rw [hkv9]; exact hh
      have hH9 : OR 2 EnR D1 69 (.slice Ah (madeKv l i).length ch) (madeKv l (i + 1)) sh := by rw [hkv9]; exact hH1
      exact ⟨(D1, i + 1, b, _, _, _, _), hE.pick [0, 4, 5, 6, 7, 8], ⟨by show i + 1 ≤ _; omega, hD1, hr.mono (by show _ ≤ 601 * (i + 1); omega), hh9, hB1, hP1, hH9, hI⟩, by show l.length - (i + 1) < l.length - i; omega⟩
    intro hlen2; replace hlen2 := gtr_f hlen2; clear hE a; intro a hE
    refine qs hE rfl rfl rfl (p_pick (b := false) rfl rfl) ?_; clear hE a; intro a hE
    refine wnt ?_
    refine c_false hE rfl ?_
    refine wp_skip ?_
    refine then_normal ?_
    refine wsr ?_
    refine qm hE rfl rfl rfl rfl rfl ?_; clear hE a; intro a hE
    refine qs hE rfl rfl rfl (p_int (z := ((i % 256 : Nat) : Int)) Tryd.underlying3 Tryd.underlying5 rfl (by rw [u8_z]; omega)) ?_; clear hE a; intro a hE
    refine l_step rfl (f_lit (vs := [(0, _)]) (l := [_]) hE hI rfl rfl rfl rfl Tryd.underlying22 zs_5 rfl rfl rfl ?_)
    clear hI hE a w; intro a b21 w hE hI
    refine qa hE rfl rfl rfl rfl rfl ?_; clear hE a; intro a hE
    refine wnt ?_
    refine wp_seq ?_
    refine wsr ?_
    refine qm hE rfl rfl rfl rfl rfl ?_; clear hE a; intro a hE
    refine qm hE rfl rfl rfl rfl rfl ?_; clear hE a; intro a hE
    refine qm hE rfl rfl rfl rfl rfl ?_; clear hE a; intro a hE
    obtain ⟨D22, hD23, hIa, hb24⟩ := lit_one (n := i % 256) 0 hI (by omega) rfl
    replace hI := hIa
    clear hIa
    try simp only [splice, insAt, List.set_cons_succ, List.set_cons_zero, List.setIfInBounds_toArray, Value.cells, List.eraseIdx_cons_succ, List.eraseIdx_cons_zero, List.eraseIdx_zero, List.tail_cons] at hI
    replace hI := hI.bring 1
    replace hI := hI.bring 1
    have hk1 : 1 ≤ x_18.length := by omega
    have hk2 : x_18.length ≤ 32 := by omega
    have hkf := made_fine l i
    have hkl := hkf.len
    obtain ⟨b9, hput, hr9, hh9⟩ := made_step (AllOk.new E0_ok) hr hh hx_18 hk1 hk2 (by omega)
    have hrl := (Runs.len hr).1
    have he0 : (newBt E0).recs.length = 0 := rfl
    refine l_step rfl (o_call hE rfl rfl rfl rfl ent_34 (BPut_ok hI (hS.mono (((hD7.trans hD13).trans hD1).trans hD23)) (hB1.mono hD23) (hP1.mono hD23) (Runs.len hr).2 (hk_18.mono (((hD7.trans hD13).trans hD1).trans hD23)) hb24 (by omega) hput) ?_)
    clear hI hE a
    rintro r w ⟨rfl, D25, sb26, sp27, hD28, hB29, hP30, hI⟩ a hE
    refine qs hE rfl rfl rfl (p_ifaceNil Tryd.underlying25 rfl rfl rfl) ?_; clear hE a; intro a hE
    refine wnt ?_
    refine c_false hE rfl ?_
    refine wp_skip ?_
    refine then_normal ?_
    refine wsr ?_
    refine qa hE rfl rfl rfl rfl rfl ?_; clear hE a; intro a hE
    refine wnt ?_
    refine wp_seq ?_
    refine wp_block ?_
    replace hI := hI.bring 2
    replace hI := hI.bring 2
    replace hI := hI.bring 2
    refine c_loop (X := Nat) (fun x => [(0, _), (4, _), (5, _), (6, _), (7, _), (8, _), (9, _), (10, _), (11, .int .i64 (x : Nat))]) (fun x w => x ≤ (findP (madeKv l i) x_18).1 ∧ Inv w0 D25 (sb26 :: sp27 :: sh :: ss) w) (fun x => (madeKv l i).length - x) 0 (hE.pick [0, 4, 5, 6, 7, 8, 9, 10, 11]) ⟨Nat.zero_le _, hI⟩ ?_
    clear hE hI a w
    rintro j a w hE ⟨hj, hI⟩
    try dsimp only at hE
    try dsimp only at hj
    try dsimp only at hI
    refine wp_seq ?_
    refine wsr ?_
    refine qm hE rfl rfl rfl rfl rfl ?_; clear hE a; intro a hE
    refine qm hE rfl rfl rfl rfl rfl ?_; clear hE a; intro a hE
    refine qs hE rfl rfl rfl (p_len rfl rfl Tryd.underlying65) ?_; clear hE a; intro a hE
    refine l_step rfl (o_cmp hE rfl rfl rfl rfl rfl rfl ?_ ?_)
    · intro hinb0; replace hinb0 := lss_t hinb0; clear hE a; intro a hE
      have hinb : j < (madeKv l i).length := by omega
      refine qm hE rfl rfl rfl rfl rfl ?_; clear hE a; intro a hE
      refine l_go hE rfl (o_pure hE rfl rfl (p_move rfl).run ?_); clear hE a; intro a hE
      refine l_go hE rfl (o_pure hE rfl rfl (p_move rfl).run ?_); clear hE a; intro a hE
      have hO31 := (OR.mono EnR.keeps hH1 (hD23.trans hD28))
      rcases Ah with _ | Ah
      · exfalso; have h0 := (OR.none hO31).1; rw [h0] at hinb; exact absurd hinb (by simp)
      obtain ⟨g31, cur31, rfl, _, hs31, hcap31, hcm31, hsz31, hat31⟩ := OR.some hO31
      subst hs31
      obtain ⟨x_32, hx_32⟩ : ∃ z9, ((madeKv l i))[j]? = some z9 := ⟨_, List.getElem?_eq_getElem (by omega)⟩
      obtain ⟨vs_32, hl_32, ⟨k_32, v_32, rfl, hk_32, hv_32, hok_32⟩, hex_32, hsz_32, hce_32⟩ := hat31.extract hx_32 (by omega)
      obtain ⟨A33, c34, rfl, _⟩ := hk_32.slice
      obtain ⟨A35, c36, rfl, _⟩ := hv_32.slice
      refine l_go hE rfl (o_pure hE rfl rfl (p_indexAddr (m := 0 + j * 2) rfl rfl Tryd.underlying65 sz_69 (by omega) (by omega) (by simp)).run ?_); clear hE a; intro a hE
      refine l_go hE rfl (o_pure hE rfl rfl (p_fieldAddr rfl fo_69_0 rfl).run ?_); clear hE a; intro a hE
      refine l_go hE rfl (o_pure hE rfl rfl (r_load rfl scal_22 (hI.seg 2 rfl) (hce_32 0 _ rfl)) ?_); clear hE a; intro a hE
      refine l_go hE rfl (o_pure hE rfl rfl (p_move rfl).run ?_); clear hE a; intro a hE
      have hel := (hkf.ents _ (List.mem_of_getElem? hx_32)).1.2
      refine l_go hE rfl (o_call hE rfl rfl rfl rfl ent_17 (Ahead_spec hI hk_32 (hk_18.mono ((((hD7.trans hD13).trans hD1).trans hD23).trans hD28)) (by omega)) ?_)
      clear hI hE a
      rintro r w h a hE; rcases h with ⟨rfl, hah37, hI⟩ | ⟨rfl, hah37, hI⟩
      · skip
        refine qs hE rfl rfl rfl (p_pick (b := true) rfl rfl) ?_; clear hE a; intro a hE
        refine wnt ?_
        refine c_true hE rfl ?_
        refine wp_skip ?_
        refine then_normal ?_
        refine wp_block ?_
        refine wp_region_list ?_
        refine qm hE rfl rfl rfl rfl rfl ?_; clear hE a; intro a hE
        refine qs hE rfl rfl rfl (p_arith (z := ((j + 1 : Nat) : Int)) rfl rfl (add_z (by omega) (by omega) (by omega))) ?_; clear hE a; intro a hE
        refine qa hE rfl rfl rfl rfl rfl ?_; clear hE a; intro a hE
        refine wpList_nil ?_
        refine blk_normal ?_
        refine then_normal ?_
        replace hI := hI.bring 2
        replace hI := hI.bring 2
        replace hI := hI.bring 2
        exact ⟨j + 1, hE.pick [0, 4, 5, 6, 7, 8, 9, 10, 11], ⟨find_step hj hx_32 hah37, hI⟩, by show (madeKv l i).length - (j + 1) < (madeKv l i).length - j; omega⟩
      refine qs hE rfl rfl rfl (p_pick (b := true) rfl rfl) ?_; clear hE a; intro a hE
      refine wnt ?_
      refine c_false hE rfl ?_
      refine wp_exit ?_
      refine then_exit ?_
      refine then_exit ?_
      refine blk_same ?_
      refine then_normal ?_
      refine wsr ?_
      refine qm hE rfl rfl rfl rfl rfl ?_; clear hE a; intro a hE
      refine qm hE rfl rfl rfl rfl rfl ?_; clear hE a; intro a hE
      refine qs hE rfl rfl rfl (f_build (vs := [(0, _), (1, _)]) (l := [_, _]) rfl built_69 rfl) ?_; clear hE a; intro a hE
      refine l_step rfl (o_call hE rfl rfl rfl rfl ent_80 (refEntry_spec (e := (x_18, [i % 256])) hI (hk_18.mono ((((hD7.trans hD13).trans hD1).trans hD23).trans hD28)) (hb24.mono hD28) (by simp only []; omega) (by simp)) ?_)
      clear hI hE a
      rintro r w ⟨D38, k39, v40, hD41, rfl, hk42, hv43, hI⟩ a hE
      obtain ⟨A44, c45, rfl, _⟩ := hk42.slice
      obtain ⟨A46, c47, rfl, _⟩ := hv43.slice
      refine l_step rfl (f_alloc (cs := #[.slice none 0 0, .slice none 0 0]) hE hI rfl rfl rfl zer_69 rfl ?_)
      clear hI hE a w; intro a b48 w hE hI
      refine l_step rfl (f_store (l := [_, _]) (ss' := _ :: _) 0 hE hI rfl rfl rfl rfl rfl sz_69 (by simp [Value.cells, Value.oneCell', pgCells, rcCells, zPg]) rfl rfl rfl ?_)
      clear hI w; intro w hI
      refine wnt ?_
      refine wp_seq ?_
      refine wsr ?_
      refine qm hE rfl rfl rfl rfl rfl ?_; clear hE a; intro a hE
      refine qm hE rfl rfl rfl rfl rfl ?_; clear hE a; intro a hE
      refine qs hE rfl rfl rfl (p_len rfl rfl Tryd.underlying65) ?_; clear hE a; intro a hE
      refine qs hE rfl rfl rfl (p_cmp rfl rfl (lss_y (by omega))) ?_; clear hE a; intro a hE
      refine qm hE rfl rfl rfl rfl rfl ?_; clear hE a; intro a hE
      refine l_go hE rfl (o_pure hE rfl rfl (p_move rfl).run ?_); clear hE a; intro a hE
      refine l_go hE rfl (o_pure hE rfl rfl (p_move rfl).run ?_); clear hE a; intro a hE
      obtain ⟨x_49, hx_49⟩ : ∃ z9, ((madeKv l i))[j]? = some z9 := ⟨_, List.getElem?_eq_getElem (by omega)⟩
      obtain ⟨vs_49, hl_49, ⟨k_49, v_49, rfl, hk_49, hv_49, hok_49⟩, hex_49, hsz_49, hce_49⟩ := hat31.extract hx_49 (by omega)
      obtain ⟨A50, c51, rfl, _⟩ := hk_49.slice
      obtain ⟨A52, c53, rfl, _⟩ := hv_49.slice
      refine l_go hE rfl (o_pure hE rfl rfl (p_indexAddr (m := 0 + j * 2) rfl rfl Tryd.underlying65 sz_69 (by omega) (by omega) (by simp)).run ?_); clear hE a; intro a hE
      refine l_go hE rfl (o_pure hE rfl rfl (p_fieldAddr rfl fo_69_0 rfl).run ?_); clear hE a; intro a hE
      refine l_go hE rfl (o_pure hE rfl rfl (r_load rfl scal_22 (hI.seg 3 rfl) (hce_49 0 _ rfl)) ?_); clear hE a; intro a hE
      refine l_go hE rfl (o_pure hE rfl rfl (p_move rfl).run ?_); clear hE a; intro a hE
      have hel := (hkf.ents _ (List.mem_of_getElem? hx_49)).1.2
      refine l_go hE rfl (o_call hE rfl rfl rfl rfl ent_18 (SameBytes_spec hI (hk_49.mono hD41) (hk_18.mono (((((hD7.trans hD13).trans hD1).trans hD23).trans hD28).trans hD41)) (by omega)) ?_)
      clear hI hE a
      rintro r w h a hE; rcases h with ⟨rfl, hsm54, hI⟩ | ⟨rfl, hsm54, hI⟩
      · skip
        refine qs hE rfl rfl rfl (p_pick (b := true) rfl rfl) ?_; clear hE a; intro a hE
        refine wnt ?_
        refine c_true hE rfl ?_
        refine wp_seq ?_
        obtain ⟨hj9, _⟩ := find_here hj hx_32 hah37
        have hfnd9 : x_49.1 = x_18 := hsm54
        refine wp_region_list ?_
        refine qm hE rfl rfl rfl rfl rfl ?_; clear hE a; intro a hE
        refine qm hE rfl rfl rfl rfl rfl ?_; clear hE a; intro a hE
        refine ql hE rfl rfl rfl (f_loadA (vs := [_, _]) rfl agg_69 (hI.seg 0 rfl) rfl rfl) ?_; clear hE a; intro a hE
        obtain ⟨x_55, hx_55⟩ : ∃ z9, ((madeKv l i))[j]? = some z9 := ⟨_, List.getElem?_eq_getElem (by omega)⟩
        obtain ⟨vs_55, hl_55, ⟨k_55, v_55, rfl, hk_55, hv_55, hok_55⟩, hex_55, hsz_55, hce_55⟩ := hat31.extract hx_55 (by omega)
        obtain ⟨A56, c57, rfl, _⟩ := hk_55.slice
        obtain ⟨A58, c59, rfl, _⟩ := hv_55.slice
        refine qs hE rfl rfl rfl (p_indexAddr (m := 0 + j * 2) rfl rfl Tryd.underlying65 sz_69 (by omega) (by omega) (by simp)) ?_; clear hE a; intro a hE
        refine l_step rfl (o_setOR (ix := j) (e' := (x_18, [i % 256])) 3 hE hI rfl rfl rfl rfl rfl sz_69 (hat31.mono EnR.keeps hD41) (by omega) (by rw [hsz31]; omega) ⟨_, _, rfl, hk42, hv43, ⟨by simp only []; omega, by simp⟩⟩ ?_)
        clear hI w; intro cur60 w hsz60 hat60 hI
        refine wnt ?_
        refine wp_exit ?_
        refine then_exit ?_
        refine blk_same ?_
        refine then_normal ?_
        refine wp_region_list ?_
        refine qm hE rfl rfl rfl rfl rfl ?_; clear hE a; intro a hE
        refine qs hE rfl rfl rfl (p_arith (z := ((i + 1 : Nat) : Int)) rfl rfl (add_z (by omega) (by omega) (by omega))) ?_; clear hE a; intro a hE
        refine qa hE rfl rfl rfl rfl rfl ?_; clear hE a; intro a hE
        refine wnt ?_
        replace hI := hI.erase 0
        replace hI := hI.bring 2
        replace hI := hI.bring 2
        replace hI := hI.bring 2
        have hi9 : (madeKv l (i + 1)) = (madeKv l i).set j (x_18, [i % 256]) := by rw [made_put hx_18 hk1 hk2]; exact (ins_set hj9 hx_49 hfnd9).symm
        have hH9 : OR 2 EnR D38 69 _ ((madeKv l i).set j (x_18, [i % 256])) _ := OR.ofAt (g := g31) (n := (madeKv l i).length) (by simp) (by simpa using hcap31) hcm31 (by rw [hsz60]; exact hsz31) hat60
        rw [← hi9] at hH9
        exact ⟨(D38, i + 1, b9, _, _, _, _), hE.pick [0, 4, 5, 6, 7, 8], ⟨by show i + 1 ≤ _; omega, (((hD1.trans hD23).trans hD28).trans hD41), hr9, hh9, (hB29.mono hD41), (hP30.mono hD41), hH9, hI⟩, by show l.length - (i + 1) < l.length - i; omega⟩
      refine qs hE rfl rfl rfl (p_pick (b := true) rfl rfl) ?_; clear hE a; intro a hE
      refine wnt ?_
      refine c_false hE rfl ?_
      refine wp_skip ?_
      refine then_normal ?_
      refine wp_seq ?_
      obtain ⟨hj9, hnf9⟩ : j = (findP (madeKv l i) x_18).1 ∧ (findP (madeKv l i) x_18).2 = false := by
        obtain ⟨h1, h2⟩ := find_here hj hx_32 hah37
        refine ⟨h1, ?_⟩
        cases hq : (findP (madeKv l i) x_18).2 with
        | false => rfl
        | true => exact absurd ((findP_stop (madeKv l i) (h1 ▸ hx_49)).2.1 hq) hsm54
      have hjl : j ≤ (madeKv l i).length := by have := findP_le (madeKv l i) x_18; omega
      obtain ⟨D61, hD62, hIh, hDR63⟩ := Inv.shutOR 3 hI rfl EnR.keeps (OR.mono EnR.keeps hO31 hD41)
      replace hI := hIh
      clear hIh
      try simp only [splice, insAt, List.set_cons_succ, List.set_cons_zero, List.setIfInBounds_toArray, Value.cells, List.eraseIdx_cons_succ, List.eraseIdx_cons_zero, List.eraseIdx_zero, List.tail_cons] at hI
      refine d_start [] [] (by kernel_rfl) hI rfl rfl ?_
      clear hI w; intro w hI
      refine d_pure 0 hE rfl (by kernel_rfl) (by kernel_rfl) (by kernel_rfl) rfl (fun _ _ _ h => h) rfl rfl rfl (p_move rfl) (fun _ => hI) (listed' := #[true, false, false, false, false, false, false, false, false]) rfl ?_; clear hE a; intro a hE
      refine d_pure 1 hE rfl (by kernel_rfl) (by kernel_rfl) (by kernel_rfl) rfl (fun _ _ _ h => h) rfl rfl rfl (p_len rfl rfl Tryd.underlying65) (fun _ => hI) (listed' := #[true, true, false, false, false, false, false, false, false]) rfl ?_; clear hE a; intro a hE
      refine d_pure 2 hE rfl (by kernel_rfl) (by kernel_rfl) (by kernel_rfl) rfl (fun _ _ _ h => h) rfl rfl rfl (p_arith (z := (((madeKv l i).length + 1 : Nat) : Int)) rfl rfl (add_z (by omega) (by omega) (by omega))) (fun _ => hI) (listed' := #[true, true, true, false, false, false, false, false, false]) rfl ?_; clear hE a; intro a hE
      refine d_pure 4 hE rfl (by kernel_rfl) (by kernel_rfl) (by kernel_rfl) rfl (fun _ _ _ h => h) rfl rfl rfl (p_move rfl) (fun _ => hI) (listed' := #[true, true, true, false, true, false, false, false, false]) rfl ?_; clear hE a; intro a hE
      refine d_pure 5 hE rfl (by kernel_rfl) (by kernel_rfl) (by kernel_rfl) rfl (fun _ _ _ h => h) rfl rfl rfl (p_move rfl) (fun _ => hI) (listed' := #[true, true, true, false, true, true, false, false, false]) rfl ?_; clear hE a; intro a hE
      have hc64 := DR.cut (l := 0) (h := j) hDR63 (by omega) (by omega)
      refine d_pure 6 hE rfl (by kernel_rfl) (by kernel_rfl) (by kernel_rfl) rfl (fun _ _ _ h => h) rfl rfl rfl (p_sliceL (l := 0) (h := j) rfl Tryd.underlying65 sz_69 rfl (lo_at rfl (by omega) (by omega)) (by omega) (by omega)) (fun _ => hI) (listed' := #[true, true, true, false, true, true, true, false, false]) rfl ?_; clear hE a; intro a hE
      refine d_one 3 hE rfl (by kernel_rfl) rfl (listed' := #[true, true, true, true, true, true, true, false, false]) rfl ?_
      refine f_make hE hI rfl rfl rfl rfl rfl Tryd.underlying65 zsb_69 (by omega) (by omega) (by omega) (by omega) ?_
      clear hI hE a w; intro a b67 w hE hI
      have hO68 := OR.make (size := 2) (R := EnR) (D := D61) (T := 69) (b := b67) (z := .agg #[.slice none 0 0, .slice none 0 0]) (c := (((madeKv l i).length + 1 : Nat) : Int).toNat) (by simp only [maxLen]; omega)
      refine ⟨fun _ => (hI.dropS [0]), ?_⟩
      refine d_one 7 hE rfl (by kernel_rfl) rfl (listed' := #[true, true, true, true, true, true, true, true, false]) rfl ?_
      refine o_appendDR (R := EnR) 0 hE hI rfl rfl rfl rfl rfl Tryd.underlying65 zsb_69 rfl rfl rfl hO68 hc64 (fun vs x h => h.one) (by simp only [List.length_nil, List.length_append, List.length_take, List.length_drop, List.length_cons]; omega) (by simp only [List.length_nil, List.length_append, List.length_take, List.length_drop, List.length_cons]; omega) ?_
      clear hI hE a w; intro v69 s70 w hO71 hI a hE
      obtain ⟨A72, c73, rfl, _⟩ := hO71.slice
      try simp only [splice, insAt, List.set_cons_succ, List.set_cons_zero, List.setIfInBounds_toArray, Value.cells, List.eraseIdx_cons_succ, List.eraseIdx_cons_zero, List.eraseIdx_zero, List.tail_cons] at hI
      refine ⟨fun _ => (hI.dropS [0]), ?_⟩
      refine d_pure 8 hE rfl (by kernel_rfl) (by kernel_rfl) (by kernel_rfl) rfl (fun _ _ _ h => h) rfl rfl rfl (p_assign rfl) (fun _ => (hI.dropS [0])) (listed' := #[true, true, true, true, true, true, true, true, true]) rfl ?_; clear hE a; intro a hE
      refine d_done (by kernel_rfl) ?_
      refine then_normal ?_
      refine wsr ?_
      refine qm hE rfl rfl rfl rfl rfl ?_; clear hE a; intro a hE
      refine ql hE rfl rfl rfl (f_loadA (vs := [_, _]) rfl agg_69 (hI.seg 1 rfl) rfl rfl) ?_; clear hE a; intro a hE
      refine l_step rfl (f_lit (vs := [(0, _)]) (l := [_, _]) hE hI rfl rfl rfl rfl Tryd.underlying65 zs_69 rfl rfl rfl ?_)
      clear hI hE a w; intro a b74 w hE hI
      refine l_step rfl (o_appendOR (R := EnR) (el := (x_18, [i % 256])) 1 0 hE hI rfl rfl rfl rfl rfl Tryd.underlying65 zsb_69 rfl rfl rfl hO71 rfl rfl (⟨_, _, rfl, (hk42.mono hD62), (hv43.mono hD62), ⟨by simp only []; omega, by simp⟩⟩) (by simp [Value.oneCell']) (by simp only [List.nil_append, List.length_take]; omega) (by simp only [List.nil_append, List.length_take]; omega) ?_)
      clear hI hE a w; intro v75 s76 w hO77 hI a hE
      obtain ⟨A78, c79, rfl, _⟩ := hO77.slice
      replace hI := hI.erase 0
      try simp only [splice, insAt, List.set_cons_succ, List.set_cons_zero, List.setIfInBounds_toArray, Value.cells, List.eraseIdx_cons_succ, List.eraseIdx_cons_zero, List.eraseIdx_zero, List.tail_cons] at hI
      refine qa hE rfl rfl rfl rfl rfl ?_; clear hE a; intro a hE
      refine wnt ?_
      refine wp_region_list ?_
      refine qm hE rfl rfl rfl rfl rfl ?_; clear hE a; intro a hE
      refine qm hE rfl rfl rfl rfl rfl ?_; clear hE a; intro a hE
      refine qm hE rfl rfl rfl rfl rfl ?_; clear hE a; intro a hE
      have hc80 := DR.cut (l := j) (h := ((madeKv l i)).length) hDR63 (by omega) (by omega)
      refine qs hE rfl rfl rfl (p_sliceL (l := j) (h := ((madeKv l i)).length) rfl Tryd.underlying65 sz_69 (lo_at rfl (by omega) (by omega)) rfl (by omega) (by omega)) ?_; clear hE a; intro a hE
      refine l_step rfl (o_appendDR (R := EnR) 0 hE hI rfl rfl rfl rfl rfl Tryd.underlying65 zsb_69 rfl rfl rfl hO77 hc80 (fun vs x h => h.one) (by simp only [List.length_nil, List.length_append, List.length_take, List.length_drop, List.length_cons]; omega) (by simp only [List.length_nil, List.length_append, List.length_take, List.length_drop, List.length_cons]; omega) ?_)
      clear hI hE a w; intro v83 s84 w hO85 hI a hE
      obtain ⟨A86, c87, rfl, _⟩ := hO85.slice
      try simp only [splice, insAt, List.set_cons_succ, List.set_cons_zero, List.setIfInBounds_toArray, Value.cells, List.eraseIdx_cons_succ, List.eraseIdx_cons_zero, List.eraseIdx_zero, List.tail_cons] at hI
      refine qa hE rfl rfl rfl rfl rfl ?_; clear hE a; intro a hE
      refine wpList_nil ?_
      refine blk_normal ?_
      refine then_normal ?_
      refine wp_region_list ?_
      refine qm hE rfl rfl rfl rfl rfl ?_; clear hE a; intro a hE
      refine qs hE rfl rfl rfl (p_arith (z := ((i + 1 : Nat) : Int)) rfl rfl (add_z (by omega) (by omega) (by omega))) ?_; clear hE a; intro a hE
      refine qa hE rfl rfl rfl rfl rfl ?_; clear hE a; intro a hE
      refine wnt ?_
      replace hI := hI.erase 1
      replace hI := hI.bring 2
      replace hI := hI.bring 2
      have hi9 : ((([] ++ ((((madeKv l i)).drop 0).take (j - 0))) ++ [(x_18, [i % 256])]) ++ ((((madeKv l i)).drop j).take (((madeKv l i)).length - j))) = madeKv l (i + 1) := by rw [made_put hx_18 hk1 hk2, ← ins_new hj9 hnf9, List.take_of_length_le (l := (madeKv l i).drop j) (by simp)]; simp
      have hH9 := OR.at_eq hO85 hi9
      exact ⟨(D61, i + 1, b9, _, _, _, _), hE.pick [0, 4, 5, 6, 7, 8], ⟨by show i + 1 ≤ _; omega, ((((hD1.trans hD23).trans hD28).trans hD41).trans hD62), hr9, hh9, (hB29.mono (hD41.trans hD62)), (hP30.mono (hD41.trans hD62)), hH9, hI⟩, by show l.length - (i + 1) < l.length - i; omega⟩
    intro hinb0; replace hinb0 := lss_f hinb0; clear hE a; intro a hE
    refine qm hE rfl rfl rfl rfl rfl ?_; clear hE a; intro a hE
    refine l_skip hE rfl rfl rfl ?_; clear hE a; intro a hE
    refine l_skip hE rfl rfl rfl ?_; clear hE a; intro a hE
    refine l_skip hE rfl rfl rfl ?_; clear hE a; intro a hE
    refine l_skip hE rfl rfl rfl ?_; clear hE a; intro a hE
    refine l_skip hE rfl rfl rfl ?_; clear hE a; intro a hE
    refine l_skip hE rfl rfl rfl ?_; clear hE a; intro a hE
    refine l_skip hE rfl rfl rfl ?_; clear hE a; intro a hE
    refine qs hE rfl rfl rfl (p_pick (b := false) rfl rfl) ?_; clear hE a; intro a hE
    refine wnt ?_
    refine c_false hE rfl ?_
    refine wp_exit ?_
    refine then_exit ?_
    refine then_exit ?_
    refine blk_same ?_
    refine then_normal ?_
    refine wsr ?_
    refine qm hE rfl rfl rfl rfl rfl ?_; clear hE a; intro a hE
    refine qm hE rfl rfl rfl rfl rfl ?_; clear hE a; intro a hE
    refine qs hE rfl rfl rfl (f_build (vs := [(0, _), (1, _)]) (l := [_, _]) rfl built_69 rfl) ?_; clear hE a; intro a hE
    refine l_step rfl (o_call hE rfl rfl rfl rfl ent_80 (refEntry_spec (e := (x_18, [i % 256])) hI (hk_18.mono ((((hD7.trans hD13).trans hD1).trans hD23).trans hD28)) (hb24.mono hD28) (by simp only []; omega) (by simp)) ?_)
    clear hI hE a
    rintro r w ⟨D88, k89, v90, hD91, rfl, hk92, hv93, hI⟩ a hE
    obtain ⟨A94, c95, rfl, _⟩ := hk92.slice
    obtain ⟨A96, c97, rfl, _⟩ := hv93.slice
    refine l_step rfl (f_alloc (cs := #[.slice none 0 0, .slice none 0 0]) hE hI rfl rfl rfl zer_69 rfl ?_)
    clear hI hE a w; intro a b98 w hE hI
    refine l_step rfl (f_store (l := [_, _]) (ss' := _ :: _) 0 hE hI rfl rfl rfl rfl rfl sz_69 (by simp [Value.cells, Value.oneCell', pgCells, rcCells, zPg]) rfl rfl rfl ?_)
    clear hI w; intro w hI
    refine wnt ?_
    refine wp_seq ?_
    refine wsr ?_
    refine qm hE rfl rfl rfl rfl rfl ?_; clear hE a; intro a hE
    refine qm hE rfl rfl rfl rfl rfl ?_; clear hE a; intro a hE
    refine qs hE rfl rfl rfl (p_len rfl rfl Tryd.underlying65) ?_; clear hE a; intro a hE
    refine qs hE rfl rfl rfl (p_cmp rfl rfl (lss_n (by omega))) ?_; clear hE a; intro a hE
    refine qm hE rfl rfl rfl rfl rfl ?_; clear hE a; intro a hE
    refine l_skip hE rfl rfl rfl ?_; clear hE a; intro a hE
    refine l_skip hE rfl rfl rfl ?_; clear hE a; intro a hE
    refine l_skip hE rfl rfl rfl ?_; clear hE a; intro a hE
    refine l_skip hE rfl rfl rfl ?_; clear hE a; intro a hE
    refine l_skip hE rfl rfl rfl ?_; clear hE a; intro a hE
    refine l_skip hE rfl rfl rfl ?_; clear hE a; intro a hE
    refine l_skip hE rfl rfl rfl ?_; clear hE a; intro a hE
    refine qs hE rfl rfl rfl (p_pick (b := false) rfl rfl) ?_; clear hE a; intro a hE
    refine wnt ?_
    refine c_false hE rfl ?_
    refine wp_skip ?_
    refine then_normal ?_
    refine wp_seq ?_
    obtain ⟨hj9, hnf9⟩ := find_last hj (by omega)
    have hjl : j ≤ (madeKv l i).length := by have := findP_le (madeKv l i) x_18; omega
    obtain ⟨D99, hD100, hIh, hDR101⟩ := Inv.shutOR 3 hI rfl EnR.keeps (OR.mono EnR.keeps hH1 ((hD23.trans hD28).trans hD91))
    replace hI := hIh
    clear hIh
    try simp only [splice, insAt, List.set_cons_succ, List.set_cons_zero, List.setIfInBounds_toArray, Value.cells, List.eraseIdx_cons_succ, List.eraseIdx_cons_zero, List.eraseIdx_zero, List.tail_cons] at hI
    refine d_start [] [] (by kernel_rfl) hI rfl rfl ?_
    clear hI w; intro w hI
    refine d_pure 0 hE rfl (by kernel_rfl) (by kernel_rfl) (by kernel_rfl) rfl (fun _ _ _ h => h) rfl rfl rfl (p_move rfl) (fun _ => hI) (listed' := #[true, false, false, false, false, false, false, false, false]) rfl ?_; clear hE a; intro a hE
    refine d_pure 1 hE rfl (by kernel_rfl) (by kernel_rfl) (by kernel_rfl) rfl (fun _ _ _ h => h) rfl rfl rfl (p_len rfl rfl Tryd.underlying65) (fun _ => hI) (listed' := #[true, true, false, false, false, false, false, false, false]) rfl ?_; clear hE a; intro a hE
    refine d_pure 2 hE rfl (by kernel_rfl) (by kernel_rfl) (by kernel_rfl) rfl (fun _ _ _ h => h) rfl rfl rfl (p_arith (z := (((madeKv l i).length + 1 : Nat) : Int)) rfl rfl (add_z (by omega) (by omega) (by omega))) (fun _ => hI) (listed' := #[true, true, true, false, false, false, false, false, false]) rfl ?_; clear hE a; intro a hE
    refine d_pure 4 hE rfl (by kernel_rfl) (by kernel_rfl) (by kernel_rfl) rfl (fun _ _ _ h => h) rfl rfl rfl (p_move rfl) (fun _ => hI) (listed' := #[true, true, true, false, true, false, false, false, false]) rfl ?_; clear hE a; intro a hE
    refine d_pure 5 hE rfl (by kernel_rfl) (by kernel_rfl) (by kernel_rfl) rfl (fun _ _ _ h => h) rfl rfl rfl (p_move rfl) (fun _ => hI) (listed' := #[true, true, true, false, true, true, false, false, false]) rfl ?_; clear hE a; intro a hE
    have hc102 := DR.cut (l := 0) (h := j) hDR101 (by omega) (by omega)
    refine d_pure 6 hE rfl (by kernel_rfl) (by kernel_rfl) (by kernel_rfl) rfl (fun _ _ _ h => h) rfl rfl rfl (p_sliceL (l := 0) (h := j) rfl Tryd.underlying65 sz_69 rfl (lo_at rfl (by omega) (by omega)) (by omega) (by omega)) (fun _ => hI) (listed' := #[true, true, true, false, true, true, true, false, false]) rfl ?_; clear hE a; intro a hE
    refine d_one 3 hE rfl (by kernel_rfl) rfl (listed' := #[true, true, true, true, true, true, true, false, false]) rfl ?_
    refine f_make hE hI rfl rfl rfl rfl rfl Tryd.underlying65 zsb_69 (by omega) (by omega) (by omega) (by omega) ?_
    clear hI hE a w; intro a b105 w hE hI
    have hO106 := OR.make (size := 2) (R := EnR) (D := D99) (T := 69) (b := b105) (z := .agg #[.slice none 0 0, .slice none 0 0]) (c := (((madeKv l i).length + 1 : Nat) : Int).toNat) (by simp only [maxLen]; omega)
    refine ⟨fun _ => (hI.dropS [0]), ?_⟩
    refine d_one 7 hE rfl (by kernel_rfl) rfl (listed' := #[true, true, true, true, true, true, true, true, false]) rfl ?_
    refine o_appendDR (R := EnR) 0 hE hI rfl rfl rfl rfl rfl Tryd.underlying65 zsb_69 rfl rfl rfl hO106 hc102 (fun vs x h => h.one) (by simp only [List.length_nil, List.length_append, List.length_take, List.length_drop, List.length_cons]; omega) (by simp only [List.length_nil, List.length_append, List.length_take, List.length_drop, List.length_cons]; omega) ?_
    clear hI hE a w; intro v107 s108 w hO109 hI a hE
    obtain ⟨A110, c111, rfl, _⟩ := hO109.slice
    try simp only [splice, insAt, List.set_cons_succ, List.set_cons_zero, List.setIfInBounds_toArray, Value.cells, List.eraseIdx_cons_succ, List.eraseIdx_cons_zero, List.eraseIdx_zero, List.tail_cons] at hI
    refine ⟨fun _ => (hI.dropS [0]), ?_⟩
    refine d_pure 8 hE rfl (by kernel_rfl) (by kernel_rfl) (by kernel_rfl) rfl (fun _ _ _ h => h) rfl rfl rfl (p_assign rfl) (fun _ => (hI.dropS [0])) (listed' := #[true, true, true, true, true, true, true, true, true]) rfl ?_; clear hE a; intro a hE
    refine d_done (by kernel_rfl) ?_
    refine then_normal ?_
    refine wsr ?_
    refine qm hE rfl rfl rfl rfl rfl ?_; clear hE a; intro a hE
    refine ql hE rfl rfl rfl (f_loadA (vs := [_, _]) rfl agg_69 (hI.seg 1 rfl) rfl rfl) ?_; clear hE a; intro a hE
    refine l_step rfl (f_lit (vs := [(0, _)]) (l := [_, _]) hE hI rfl rfl rfl rfl Tryd.underlying65 zs_69 rfl rfl rfl ?_)
    clear hI hE a w; intro a b112 w hE hI
    refine l_step rfl (o_appendOR (R := EnR) (el := (x_18, [i % 256])) 1 0 hE hI rfl rfl rfl rfl rfl Tryd.underlying65 zsb_69 rfl rfl rfl hO109 rfl rfl (⟨_, _, rfl, (hk92.mono hD100), (hv93.mono hD100), ⟨by simp only []; omega, by simp⟩⟩) (by simp [Value.oneCell']) (by simp only [List.nil_append, List.length_take]; omega) (by simp only [List.nil_append, List.length_take]; omega) ?_)
    clear hI hE a w; intro v113 s114 w hO115 hI a hE
    obtain ⟨A116, c117, rfl, _⟩ := hO115.slice
    replace hI := hI.erase 0
    try simp only [splice, insAt, List.set_cons_succ, List.set_cons_zero, List.setIfInBounds_toArray, Value.cells, List.eraseIdx_cons_succ, List.eraseIdx_cons_zero, List.eraseIdx_zero, List.tail_cons] at hI
    refine qa hE rfl rfl rfl rfl rfl ?_; clear hE a; intro a hE
    refine wnt ?_
    refine wp_region_list ?_
    refine qm hE rfl rfl rfl rfl rfl ?_; clear hE a; intro a hE
    refine qm hE rfl rfl rfl rfl rfl ?_; clear hE a; intro a hE
    refine qm hE rfl rfl rfl rfl rfl ?_; clear hE a; intro a hE
    have hc118 := DR.cut (l := j) (h := ((madeKv l i)).length) hDR101 (by omega) (by omega)
    refine qs hE rfl rfl rfl (p_sliceL (l := j) (h := ((madeKv l i)).length) rfl Tryd.underlying65 sz_69 (lo_at rfl (by omega) (by omega)) rfl (by omega) (by omega)) ?_; clear hE a; intro a hE
    refine l_step rfl (o_appendDR (R := EnR) 0 hE hI rfl rfl rfl rfl rfl Tryd.underlying65 zsb_69 rfl rfl rfl hO115 hc118 (fun vs x h => h.one) (by simp only [List.length_nil, List.length_append, List.length_take, List.length_drop, List.length_cons]; omega) (by simp only [List.length_nil, List.length_append, List.length_take, List.length_drop, List.length_cons]; omega) ?_)
    clear hI hE a w; intro v121 s122 w hO123 hI a hE
    obtain ⟨A124, c125, rfl, _⟩ := hO123.slice
    try simp only [splice, insAt, List.set_cons_succ, List.set_cons_zero, List.setIfInBounds_toArray, Value.cells, List.eraseIdx_cons_succ, List.eraseIdx_cons_zero, List.eraseIdx_zero, List.tail_cons] at hI
    refine qa hE rfl rfl rfl rfl rfl ?_; clear hE a; intro a hE
    refine wpList_nil ?_
    refine blk_normal ?_
    refine then_normal ?_
    refine wp_region_list ?_
    refine qm hE rfl rfl rfl rfl rfl ?_; clear hE a; intro a hE
    refine qs hE rfl rfl rfl (p_arith (z := ((i + 1 : Nat) : Int)) rfl rfl (add_z (by omega) (by omega) (by omega))) ?_; clear hE a; intro a hE
    refine qa hE rfl rfl rfl rfl rfl ?_; clear hE a; intro a hE
    refine wnt ?_
    replace hI := hI.erase 1
    replace hI := hI.bring 2
    replace hI := hI.bring 2
    have hi9 : ((([] ++ ((((madeKv l i)).drop 0).take (j - 0))) ++ [(x_18, [i % 256])]) ++ ((((madeKv l i)).drop j).take (((madeKv l i)).length - j))) = madeKv l (i + 1) := by rw [made_put hx_18 hk1 hk2, ← ins_new hj9 hnf9, List.take_of_length_le (l := (madeKv l i).drop j) (by simp)]; simp
    have hH9 := OR.at_eq hO123 hi9
    exact ⟨(D99, i + 1, b9, _, _, _, _), hE.pick [0, 4, 5, 6, 7, 8], ⟨by show i + 1 ≤ _; omega, ((((hD1.trans hD23).trans hD28).trans hD91).trans hD100), hr9, hh9, (hB29.mono (hD91.trans hD100)), (hP30.mono (hD91.trans hD100)), hH9, hI⟩, by show l.length - (i + 1) < l.length - i; omega⟩
  intro hlt; replace hlt := lss_f hlt; clear hE a; intro a hE
  refine wnt ?_
  refine c_false hE rfl ?_
  refine wp_exit ?_
  refine then_exit ?_
  refine then_exit ?_
  refine blk_same ?_
  refine then_normal ?_
  refine wsr ?_
  refine qm hE rfl rfl rfl rfl rfl ?_; clear hE a; intro a hE
  refine qm hE rfl rfl rfl rfl rfl ?_; clear hE a; intro a hE
  replace hI := hI.bring 1
  replace hI := hI.bring 1
  have hi9 : i = l.length := by omega
  subst hi9
  have hrl := (Runs.len hr).1
  have he0 : (newBt E0).recs.length = 0 := rfl
  have hkf := made_fine l l.length
  have hkl := hkf.len
  obtain ⟨_, P9, hlaid, hPH⟩ := laid_holds E0_ok (by omega) hr (by omega) hh (by omega)
  refine l_step rfl (o_call hE rfl rfl rfl rfl ent_37 (Redo_ok hI (hS.mono ((hD7.trans hD13).trans hD1)) hB1 hP1 (Runs.len hr).2 (by omega)) ?_)
  clear hI hE a
  rintro r w ⟨D126, sb127, sp128, hD129, hL130, hB131, hP132, hI⟩ a hE
  obtain ⟨A133, c134, rfl, _⟩ := hL130.slice
  refine qm hE rfl rfl rfl rfl rfl ?_; clear hE a; intro a hE
  refine l_step rfl (o_call hE rfl rfl rfl rfl ent_79 (lay_spec (hI.bring 1) hP132 (hS.mono (((hD7.trans hD13).trans hD1).trans hD129)) hL130 (n := 4) (by omega) (by omega) (by omega) hlaid) ?_)
  clear hI hE a
  rintro r w ⟨D135, s136, hD137, rfl, hP138, hI⟩ a hE
  replace hI := hI.put_back 1
  try simp only [splice, insAt, List.set_cons_succ, List.set_cons_zero, List.setIfInBounds_toArray, Value.cells, List.eraseIdx_cons_succ, List.eraseIdx_cons_zero, List.eraseIdx_zero, List.tail_cons] at hI
  refine wnt ?_
  refine wsr ?_
  refine qm hE rfl rfl rfl rfl rfl ?_; clear hE a; intro a hE
  refine qm hE rfl rfl rfl rfl rfl ?_; clear hE a; intro a hE
  refine qa hE rfl rfl rfl rfl rfl ?_; clear hE a; intro a hE
  refine qa hE rfl rfl rfl rfl rfl ?_; clear hE a; intro a hE
  refine wnt ?_
  refine wp_ret ?_
  refine ret2 rfl hE rfl rfl ?_
  replace hI := hI.erase 0
  replace hI := hI.bring 1
  obtain ⟨D9, hD9, hI9, hDR9⟩ := Inv.shutOR 0 hI rfl EnR.keeps (OR.mono EnR.keeps hH1 (hD129.trans hD137))
  exact ⟨D9, bp5, _, s136, P9, ((((hD7.trans hD13).trans hD1).trans hD129).trans hD137).trans hD9, rfl, (hP138).mono hD9, ⟨AllOk.new hPH.1, hPH.2, by omega, fun e he => (hkf.ents e he).1.2, fun e he => by have := (hkf.ents e he).2; omega⟩, hDR9, hI9⟩
end Go.Proofs.YtbogbnkckofpdaaDoor.B
