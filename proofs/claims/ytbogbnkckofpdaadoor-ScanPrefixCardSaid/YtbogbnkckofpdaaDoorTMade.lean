/- What functions of the program compute, each function once: steps over the model, and the plain law of it. -/
import Derived.Test.YtbogbnkckofpdaaDoorTScan
import Derived.Test.YtbogbnkckofpdaaDoorTMadeP
import Derived.Test.YtbogbnkckofpdaaDoorSOrow
import Derived.Test.YtbogbnkckofpdaaDoorTKeys
namespace Go.Proofs.YtbogbnkckofpdaaDoor.B
open Go Go.Proofs
set_option linter.unusedVariables false
set_option linter.unusedSimpArgs false
set_option maxRecDepth 20000
set_option maxHeartbeats 8000000
namespace FTMade
theorem agg_69 : aggSize Tryd.prog 69 = some 2 := by kernel_rfl
theorem agg_88 : aggSize Tryd.prog 88 = some 10 := by kernel_rfl
theorem built_69 : ∀ vs, Tryd.prog.built 69 vs = Instr.fill (([(0, 1), (1, 1)] : List (Nat × Nat)).toArray[·]?) ([.slice none 0 0, .slice none 0 0] : List Value).toArray vs := fun _ => by kernel_rfl
theorem ent_27 : enters Tryd.prog 27 = true := by kernel_rfl
theorem ent_47 : enters Tryd.prog 47 = true := by kernel_rfl
theorem ent_76 : enters Tryd.prog 76 = true := by kernel_rfl
theorem fo_69_0 : fieldOff Tryd.prog 69 0 = some 0 := by kernel_rfl
theorem fo_69_1 : fieldOff Tryd.prog 69 1 = some 1 := by kernel_rfl
theorem fo_88_0 : fieldOff Tryd.prog 88 0 = some 0 := by kernel_rfl
theorem scal_22 : isScal Tryd.prog 22 = true := by kernel_rfl
theorem sz_2 : (Tryd.prog.info? 2).map (·.size) = some 1 := by kernel_rfl
theorem sz_69 : (Tryd.prog.info? 69).map (·.size) = some 2 := by kernel_rfl
theorem sz_88 : (Tryd.prog.info? 88).map (·.size) = some 10 := by kernel_rfl
theorem zer_69 : (Tryd.prog.info? 69).bind (·.zero) = some (.agg #[.slice none 0 0, .slice none 0 0]) := by kernel_rfl
theorem zer_88 : (Tryd.prog.info? 88).bind (·.zero) = some (.agg #[.int .i64 0, .int .i64 0, .int .i64 0, .int .i64 0, .int .i64 0, .int .i64 0, .int .i64 0, .slice none 0 0, .slice none 0 0, .bool false]) := by kernel_rfl
end FTMade
open FTMade
theorem refEntry_spec {w0 w : World} {D : Sto} {ss : List Seg} (hI : Inv w0 D ss w) {k v : Value} {e : Bs × Bs} (hk : RB D k e.1) (hv : RB D v e.2) (h1 : e.1.length ≤ 100000) (h2 : e.2.length ≤ 100000) :
    Calls Tryd.prog 80 #[.agg #[k, v]] w (Ret fun r w' => ∃ D' k' v', Le D D' ∧ r = .agg #[k', v'] ∧ RB D' k' e.1 ∧ RB D' v' e.2 ∧ Inv w0 D' ss w') := by
  obtain ⟨A1, c2, rfl, _⟩ := hk.slice
  obtain ⟨A3, c4, rfl, _⟩ := hv.slice
  refine enter (N := 10) Tryd.func80 rfl rfl rfl ?_
  intro a hE
  refine wsr ?_
  refine l_step rfl (f_box (cs := #[_, _]) hE hI rfl rfl rfl rfl rfl ?_)
  clear hI hE a w; intro a b5 w hE hI
  refine l_step rfl (f_alloc (cs := #[.slice none 0 0, .slice none 0 0]) hE hI rfl rfl rfl zer_69 rfl ?_)
  clear hI hE a w; intro a b6 w hE hI
  refine wnt ?_
  refine wp_seq ?_
  refine d_start [7] [] (by kernel_rfl) hI rfl rfl ?_
  clear hI w; intro w hI
  refine d_pure 0 hE rfl (by kernel_rfl) (by kernel_rfl) (by kernel_rfl) rfl (fun _ _ _ h => h) rfl rfl rfl (p_fieldAddr (m := 0) rfl fo_69_0 rfl) (fun _ => hI) (listed' := #[true, false, false, false, false, false, false, false]) rfl ?_; clear hE a; intro a hE
  refine d_load 1 hE rfl (by kernel_rfl) (by kernel_rfl) (by kernel_rfl) (by kernel_rfl) (by kernel_rfl) rfl rfl (fun _ _ _ h => h) rfl rfl rfl (fun w hS => f_load rfl scal_22 (Inv.seg 1 hS rfl) rfl) (hI) (listed' := #[true, true, false, false, false, false, false, false]) rfl ?_; clear hE a; intro a hE
  refine d_pure 3 hE rfl (by kernel_rfl) (by kernel_rfl) (by kernel_rfl) rfl (fun _ _ _ h => h) rfl rfl rfl (p_fieldAddr (m := 1) rfl fo_69_1 rfl) (fun _ => hI) (listed' := #[true, true, false, true, false, false, false, false]) rfl ?_; clear hE a; intro a hE
  refine d_load 4 hE rfl (by kernel_rfl) (by kernel_rfl) (by kernel_rfl) (by kernel_rfl) (by kernel_rfl) rfl rfl (fun _ _ _ h => h) rfl rfl rfl (fun w hS => f_load rfl scal_22 (Inv.seg 1 hS rfl) rfl) (hI) (listed' := #[true, true, false, true, true, false, false, false]) rfl ?_; clear hE a; intro a hE
  refine d_one 2 hE rfl (by kernel_rfl) rfl (listed' := #[true, true, true, true, true, false, false, false]) rfl ?_
  refine o_call hE rfl rfl rfl rfl ent_27 (refBytes_data (bs := e.1) hI hk (by omega)) ?_
  clear hI hE a
  rintro r w ⟨D7, hD8, hI, hb9⟩ a hE
  obtain ⟨A10, c11, rfl, _⟩ := hb9.slice
  refine ⟨fun _ => (Inv.weaken hI hD8), ?_⟩
  refine d_one 5 hE rfl (by kernel_rfl) rfl (listed' := #[true, true, true, true, true, true, false, false]) rfl ?_
  refine o_call hE rfl rfl rfl rfl ent_27 (refBytes_data (bs := e.2) hI (hv.mono hD8) (by omega)) ?_
  clear hI hE a
  rintro r w ⟨D12, hD13, hI, hb14⟩ a hE
  obtain ⟨A15, c16, rfl, _⟩ := hb14.slice
  refine ⟨fun _ => (Inv.weaken hI (hD8.trans hD13)), ?_⟩
  refine d_pure 6 hE rfl (by kernel_rfl) (by kernel_rfl) (by kernel_rfl) rfl (fun _ _ _ h => h) rfl rfl rfl (f_build (vs := [(0, _), (1, _)]) (l := [_, _]) rfl built_69 rfl) (fun _ => (Inv.weaken hI (hD8.trans hD13))) (listed' := #[true, true, true, true, true, true, true, false]) rfl ?_; clear hE a; intro a hE
  refine d_one 7 hE rfl (by kernel_rfl) rfl (listed' := #[true, true, true, true, true, true, true, true]) rfl ?_
  refine f_store (l := [_, _]) (ss' := _ :: _) 0 hE hI rfl rfl rfl rfl rfl sz_69 (by simp [Value.cells, Value.oneCell', pgCells, rcCells, zPg]) rfl rfl rfl ?_
  clear hI w; intro w hI
  refine ⟨(fun h => Bool.noConfusion (show false = true from h)), ?_⟩
  refine d_done (by kernel_rfl) ?_
  refine then_normal ?_
  refine wp_ret ?_
  refine retc1 rfl hE rfl agg_69 (hI.seg 0 rfl) rfl ?_
  exact ⟨D12, _, _, (hD8.trans hD13), rfl, (hb9.mono hD13), hb14, hI.drop.drop⟩
theorem laid_next {P P9 : Pl} {l : List Rc} {i : Nat} {m m9 : Int} {x : Rc} (hx : l[i]? = some x) (h : laidP P (l.drop i) m = some (P9, m9)) : ∃ P8, P.apply { x with lsn := m } = some P8 ∧ laidP P8 (l.drop (i + 1)) (m + 1) = some (P9, m9) := by
  rw [laidP_at hx] at h
  split at h
  · cases h
  split at h
  · cases h
  rename_i P8 hP8
  exact ⟨P8, hP8, h⟩
theorem lay_spec {w0 w : World} {D : Sto} {ss : List Seg} {s : Seg} {vp : Value} {P P9 : Pl} {m9 : Int} (hI : Inv w0 D (s :: ss) w) (hP : PoolS D vp P s) {ad : Nat → Addr} (hS : TSents D ad) {vl : Value} {l : List Rc} (hl : DR 10 RcR D vl l) {n : Int} (hn0 : 0 ≤ n) (hn1 : n ≤ 1099511627777) (hlen : l.length ≤ 1000000000) (hla : laidP P l n = some (P9, m9)) :
    Calls Tryd.prog 79 #[vp, vl, .int .i64 n] w (Ret fun r w' => ∃ D' s', Le D D' ∧ r = .int .i64 (n + (l.length : Nat)) ∧ PoolS D' vp P9 s' ∧ Inv w0 D' (s' :: ss) w') := by
  obtain ⟨A1, c2, rfl, _⟩ := hl.slice
  refine enter (N := 28) Tryd.func79 rfl rfl rfl ?_
  intro a hE
  refine wsr ?_
  refine qa hE rfl rfl rfl rfl rfl ?_; clear hE a; intro a hE
  refine wnt ?_
  refine wp_seq ?_
  refine wsr ?_
  refine qa hE rfl rfl rfl rfl rfl ?_; clear hE a; intro a hE
  refine wnt ?_
  refine wp_block ?_
  refine c_loop (X := Sto × Nat × Pl × Int × Seg) (fun x => [(0, _), (1, _), (2, .int .i64 x.2.2.2.1), (7, .int .i64 (x.2.1 : Nat))]) (fun x w => x.2.1 ≤ l.length ∧ Le D x.1 ∧ laidP x.2.2.1 (l.drop x.2.1) x.2.2.2.1 = some (P9, m9) ∧ x.2.2.2.1 = n + (x.2.1 : Nat) ∧ PoolS x.1 vp x.2.2.1 x.2.2.2.2 ∧ Inv w0 x.1 (x.2.2.2.2 :: ss) w) (fun x => l.length - x.2.1) (D, 0, P, n, s) (hE.pick [0, 1, 2, 7]) ⟨Nat.zero_le _, Le.refl _, hla, by simp, hP, hI⟩ ?_
  clear hE hI a w
  rintro ⟨D1, i, P1, m, s1⟩ a w hE ⟨hi, hD1, heq, hm, hP1, hI⟩
  try dsimp only at hE
  try dsimp only at hi
  try dsimp only at hD1
  try dsimp only at heq
  try dsimp only at hm
  try dsimp only at hP1
  try dsimp only at hI
  refine wp_seq ?_
  refine wsr ?_
  refine qm hE rfl rfl rfl rfl rfl ?_; clear hE a; intro a hE
  refine qm hE rfl rfl rfl rfl rfl ?_; clear hE a; intro a hE
  refine qs hE rfl rfl rfl (p_len rfl rfl Tryd.underlying62) ?_; clear hE a; intro a hE
  refine l_step rfl (o_cmp hE rfl rfl rfl rfl rfl rfl ?_ ?_)
  · intro hlt; replace hlt := lss_t hlt; clear hE a; intro a hE
    refine wnt ?_
    refine c_true hE rfl ?_
    refine wp_skip ?_
    refine then_normal ?_
    refine wp_seq ?_
    refine wp_block ?_
    refine wsr ?_
    refine qm hE rfl rfl rfl rfl rfl ?_; clear hE a; intro a hE
    refine qm hE rfl rfl rfl rfl rfl ?_; clear hE a; intro a hE
    obtain ⟨x_3, hx_3⟩ : ∃ z9, (l)[i]? = some z9 := ⟨_, List.getElem?_eq_getElem (by omega)⟩
    obtain ⟨b_3, o_3, cs_3, T_3, fr_3, rfl, hb_3, hat_3⟩ := hl.at_ (by intro h0; rw [h0] at hx_3; simp at hx_3)
    obtain ⟨vs_3, hl_3, ⟨k_3, v_3, rfl, hk_3, hv_3, hok_3⟩, hex_3, hsz_3, hce_3⟩ := hat_3.extract hx_3 (by omega)
    obtain ⟨A4, c5, rfl, _⟩ := hk_3.slice
    obtain ⟨A6, c7, rfl, _⟩ := hv_3.slice
    refine qs hE rfl rfl rfl (p_indexAddr (m := o_3 + i * 10) rfl rfl Tryd.underlying62 sz_88 (by omega) (by omega) (by simp)) ?_; clear hE a; intro a hE
    refine ql hE rfl rfl rfl (r_loadA rfl agg_88 (hI.data _ _ (hD1 _ _ (hb_3))) hsz_3 hex_3) ?_; clear hE a; intro a hE
    refine l_step rfl (o_call hE rfl rfl rfl rfl ent_76 (refRedo_spec (rc := x_3) hI ⟨_, _, rfl, (hk_3.mono hD1), (hv_3.mono hD1), hok_3⟩) ?_)
    clear hI hE a
    rintro r w ⟨D8, hD9, hI, ⟨k10, v11, rfl, hk12, hv13, ho14⟩⟩ a hE
    obtain ⟨A15, c16, rfl, _⟩ := hk12.slice
    obtain ⟨A17, c18, rfl, _⟩ := hv13.slice
    refine l_step rfl (f_alloc (cs := #[.int .i64 0, .int .i64 0, .int .i64 0, .int .i64 0, .int .i64 0, .int .i64 0, .int .i64 0, .slice none 0 0, .slice none 0 0, .bool false]) hE hI rfl rfl rfl zer_88 rfl ?_)
    clear hI hE a w; intro a b19 w hE hI
    refine l_step rfl (f_store (l := [_, _, _, _, _, _, _, _, _, _]) (ss' := _ :: _) 0 hE hI rfl rfl rfl rfl rfl sz_88 (by simp [Value.cells, Value.oneCell', pgCells, rcCells, zPg]) rfl rfl rfl ?_)
    clear hI w; intro w hI
    refine wnt ?_
    refine wsr ?_
    refine qm hE rfl rfl rfl rfl rfl ?_; clear hE a; intro a hE
    refine qs hE rfl rfl rfl (p_fieldAddr (m := 0) rfl fo_88_0 rfl) ?_; clear hE a; intro a hE
    refine l_step rfl (f_store (l := [_, _, _, _, _, _, _, _, _, _]) (ss' := _ :: _) 0 hE hI rfl rfl rfl rfl rfl sz_2 (by simp [Value.cells, Value.oneCell', pgCells, rcCells, zPg]) rfl rfl rfl ?_)
    clear hI w; intro w hI
    refine wnt ?_
    refine wsr ?_
    refine qm hE rfl rfl rfl rfl rfl ?_; clear hE a; intro a hE
    refine ql hE rfl rfl rfl (f_loadA (vs := [_, _, _, _, _, _, _, _, _, _]) rfl agg_88 (hI.seg 0 rfl) rfl rfl) ?_; clear hE a; intro a hE
    obtain ⟨P8, hap8, heq2⟩ := laid_next hx_3 heq
    refine l_step rfl (o_call hE rfl rfl rfl rfl ent_47 (PApply_spec (rc := ({ x_3 with lsn := m } : Rc)) (hI.bring 1) (hP1.mono hD9) (hS.mono (hD1.trans hD9)) ⟨_, _, rfl, hk12, hv13, ho14.lsn (n := m) (by omega) (by omega)⟩) ?_)
    clear hI hE a
    rintro r w h a hE; rcases h with ⟨P20, hap21, rfl, D22, s23, hD24, hP25, hI⟩ | ⟨hap21, rfl, hI, hP25⟩
    · skip
      replace hI := hI.put_back 1
      try simp only [splice, insAt, List.set_cons_succ, List.set_cons_zero, List.setIfInBounds_toArray, Value.cells, List.eraseIdx_cons_succ, List.eraseIdx_cons_zero, List.eraseIdx_zero, List.tail_cons] at hI
      rw [hap8] at hap21; injection hap21 with hap21; subst hap21
      refine wnt ?_
      refine wp_region_list ?_
      refine qm hE rfl rfl rfl rfl rfl ?_; clear hE a; intro a hE
      refine qs hE rfl rfl rfl (p_arith (z := m + 1) rfl rfl (add_z rfl (by omega) (by omega))) ?_; clear hE a; intro a hE
      refine qa hE rfl rfl rfl rfl rfl ?_; clear hE a; intro a hE
      refine wpList_nil ?_
      refine blk_normal ?_
      refine then_normal ?_
      refine wp_region_list ?_
      refine qm hE rfl rfl rfl rfl rfl ?_; clear hE a; intro a hE
      refine qs hE rfl rfl rfl (p_arith (z := ((i + 1 : Nat) : Int)) rfl rfl (add_z (by omega) (by omega) (by omega))) ?_; clear hE a; intro a hE
      refine qa hE rfl rfl rfl rfl rfl ?_; clear hE a; intro a hE
      refine wnt ?_
      replace hI := hI.erase 0
      exact ⟨(D22, i + 1, P8, m + 1, _), hE.pick [0, 1, 2, 7], ⟨by show i + 1 ≤ _; omega, ((hD1.trans hD9).trans hD24), heq2, by show m + 1 = n + ((i + 1 : Nat) : Int); omega, hP25, hI⟩, by show l.length - (i + 1) < l.length - i; omega⟩
    exfalso
    rw [hap8] at hap21; cases hap21
  intro hlt; replace hlt := lss_f hlt; clear hE a; intro a hE
  refine wnt ?_
  refine c_false hE rfl ?_
  refine wp_exit ?_
  refine then_exit ?_
  refine then_exit ?_
  refine blk_same ?_
  refine then_normal ?_
  refine wsr ?_
  refine qm hE rfl rfl rfl rfl rfl ?_; clear hE a; intro a hE
  refine qa hE rfl rfl rfl rfl rfl ?_; clear hE a; intro a hE
  refine wnt ?_
  refine wp_ret ?_
  refine ret1 rfl hE rfl ?_
  have hfin : P1 = P9 := by rw [List.drop_of_length_le (by omega)] at heq; injection heq with heq; injection heq
  subst hfin
  have hi9 : i = l.length := by omega
  exact ⟨_, _, hD1, by rw [hm, hi9], hP1, hI⟩
end Go.Proofs.YtbogbnkckofpdaaDoor.B
