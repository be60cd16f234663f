/- What functions of the program compute, each function once: steps over the model, and the plain law of it. -/
import Derived.Test.YtbogbnkckofpdaaDoorTCheckG
import Derived.Test.YtbogbnkckofpdaaDoorTValuesP
import Derived.Test.YtbogbnkckofpdaaDoorTFirst
import Derived.Test.YtbogbnkckofpdaaDoorTApart
namespace Go.Proofs.YtbogbnkckofpdaaDoor.B
open Go Go.Proofs
set_option linter.unusedVariables false
set_option linter.unusedSimpArgs false
set_option maxRecDepth 20000
set_option maxHeartbeats 8000000
namespace FTValues
theorem ent_18 : enters Tryd.prog 18 = true := by kernel_rfl
theorem ent_20 : enters Tryd.prog 20 = true := by kernel_rfl
theorem ent_30 : enters Tryd.prog 30 = true := by kernel_rfl
theorem ent_32 : enters Tryd.prog 32 = true := by kernel_rfl
theorem ent_33 : enters Tryd.prog 33 = true := by kernel_rfl
theorem ent_34 : enters Tryd.prog 34 = true := by kernel_rfl
theorem ent_35 : enters Tryd.prog 35 = true := by kernel_rfl
theorem ent_36 : enters Tryd.prog 36 = true := by kernel_rfl
theorem ent_37 : enters Tryd.prog 37 = true := by kernel_rfl
theorem ent_45 : enters Tryd.prog 45 = true := by kernel_rfl
theorem fo_88_5 : fieldOff Tryd.prog 88 5 = some 5 := by kernel_rfl
theorem scal_3 : isScal Tryd.prog 3 = true := by kernel_rfl
theorem sz_88 : (Tryd.prog.info? 88).map (·.size) = some 10 := by kernel_rfl
theorem zs_5 : (Tryd.prog.info? 5).map (fun i => (i.zero, i.size)) = some (some (.int .u8 0), 1) := by kernel_rfl
end FTValues
open FTValues
theorem lit_one {w0 w : World} {D : Sto} {ss : List Seg} {b T n : Nat} {fr : Nat × Nat} (i : Nat) (hI : Inv w0 D ss w) (hn : n < 256) (hi : ss[i]? = some [(b, .cells [Value.int .u8 ((n : Nat) : Int)].toArray T fr)]) :
    ∃ D', Le D D' ∧ Inv w0 D' (ss.eraseIdx i) w ∧ RB D' (.slice (some ⟨b, 0, none⟩) 1 1) [n] := lit_data [n] i hI hi (by intro x hx; simp only [List.mem_cons, List.not_mem_nil, or_false] at hx; omega)
theorem TreeValues_spec {w0 w : World} {D : Sto} {ss : List Seg} (hI : Inv w0 D ss w) {ad : Nat → Addr} (hS : TSents D ad) (i0 i1 : Int) {vv vw : Value} {v w4 : Bs} (hv : RB D vv v) (hw : RB D vw w4) :
    Calls Tryd.prog 11 #[.int .i64 i0, .int .i64 i1, vv, vw] w (Ret fun r w' => r = .bool true ∧ ∃ D', Le D D' ∧ Inv w0 D' ss w') := by
  obtain ⟨A1, c2, rfl, _⟩ := hv.slice
  obtain ⟨A3, c4, rfl, _⟩ := hw.slice
  refine enter (N := 168) Tryd.func11 rfl rfl rfl ?_
  intro a hE
  refine wsr ?_
  refine qa hE rfl rfl rfl rfl rfl ?_; clear hE a; intro a hE
  refine wnt ?_
  refine wsr ?_
  refine l_step rfl (o_call hE rfl rfl rfl rfl ent_30 (first21_spec hI hS) ?_)
  clear hI hE a
  rintro r w ⟨D5, hD6, hI, rfl⟩ a hE
  refine qa hE rfl rfl rfl rfl rfl ?_; clear hE a; intro a hE
  refine wnt ?_
  refine wp_seq ?_
  refine wsr ?_
  refine qm hE rfl rfl rfl rfl rfl ?_; clear hE a; intro a hE
  refine qs hE rfl rfl rfl (p_not rfl) ?_; clear hE a; intro a hE
  refine wnt ?_
  refine c_false hE rfl ?_
  refine wp_skip ?_
  refine then_normal ?_
  refine wsr ?_
  refine qm hE rfl rfl rfl rfl rfl ?_; clear hE a; intro a hE
  refine l_step rfl (o_call hE rfl rfl rfl rfl ent_20 (Number_spec (m := 60) hI _ (by omega) (by omega)) ?_)
  clear hI hE a
  rintro r w ⟨⟨z7, rfl, hz8, hz9⟩, hI⟩ a hE
  obtain ⟨n, hn9⟩ : ∃ n : Nat, z7 = n := ⟨z7.toNat, by omega⟩
  subst hn9
  refine qs hE rfl rfl rfl (p_arith (z := ((n + 1 : Nat) : Int)) rfl rfl (add_z (by omega) (by omega) (by omega))) ?_; clear hE a; intro a hE
  refine qa hE rfl rfl rfl rfl rfl ?_; clear hE a; intro a hE
  refine wnt ?_
  refine wsr ?_
  refine qm hE rfl rfl rfl rfl rfl ?_; clear hE a; intro a hE
  refine qm hE rfl rfl rfl rfl rfl ?_; clear hE a; intro a hE
  refine l_step rfl (o_call hE rfl rfl rfl rfl ent_20 (Number_spec (m := ((n + 1 : Nat) : Int)) hI _ (by omega) (by omega)) ?_)
  clear hI hE a
  rintro r w ⟨⟨z10, rfl, hz11, hz12⟩, hI⟩ a hE
  obtain ⟨at9, ha9⟩ : ∃ n : Nat, z10 = n := ⟨z10.toNat, by omega⟩
  subst ha9
  have hal : at9 < n + 1 := by omega
  refine qa hE rfl rfl rfl rfl rfl ?_; clear hE a; intro a hE
  refine wnt ?_
  refine wp_seq ?_
  refine wsr ?_
  refine qm hE rfl rfl rfl rfl rfl ?_; clear hE a; intro a hE
  refine qs hE rfl rfl rfl (p_len rfl rfl Tryd.underlying22) ?_; clear hE a; intro a hE
  refine l_step rfl (o_cmp hE rfl rfl rfl rfl rfl rfl ?_ ?_)
  · intro hv64; replace hv64 := gtr_t hv64; clear hE a; intro a hE
    refine qm hE rfl rfl rfl rfl rfl ?_; clear hE a; intro a hE
    refine l_skip hE rfl rfl rfl ?_; clear hE a; intro a hE
    refine l_skip hE rfl rfl rfl ?_; clear hE a; intro a hE
    refine l_skip hE rfl rfl rfl ?_; clear hE a; intro a hE
    refine qs hE rfl rfl rfl (p_pick (b := true) rfl rfl) ?_; clear hE a; intro a hE
    refine wnt ?_
    refine c_true hE rfl ?_
    refine wsr ?_
    refine qm hE rfl rfl rfl rfl rfl ?_; clear hE a; intro a hE
    refine qa hE rfl rfl rfl rfl rfl ?_; clear hE a; intro a hE
    refine wnt ?_
    refine wp_ret ?_
    refine then_ret ?_
    refine ret1 rfl hE rfl ?_
    exact ⟨rfl, _, hD6, hI⟩
  intro hv64; replace hv64 := gtr_f hv64; clear hE a; intro a hE
  refine qm hE rfl rfl rfl rfl rfl ?_; clear hE a; intro a hE
  refine l_go hE rfl (o_pure hE rfl rfl (p_move rfl).run ?_); clear hE a; intro a hE
  refine l_go hE rfl (o_pure hE rfl rfl (p_len rfl rfl Tryd.underlying22).run ?_); clear hE a; intro a hE
  refine l_go hE rfl (o_cmp hE rfl rfl rfl rfl rfl rfl ?_ ?_)
  · intro hw64; replace hw64 := gtr_t hw64; clear hE a; intro a hE
    refine qs hE rfl rfl rfl (p_pick (b := false) rfl rfl) ?_; clear hE a; intro a hE
    refine wnt ?_
    refine c_true hE rfl ?_
    refine wsr ?_
    refine qm hE rfl rfl rfl rfl rfl ?_; clear hE a; intro a hE
    refine qa hE rfl rfl rfl rfl rfl ?_; clear hE a; intro a hE
    refine wnt ?_
    refine wp_ret ?_
    refine then_ret ?_
    refine ret1 rfl hE rfl ?_
    exact ⟨rfl, _, hD6, hI⟩
  intro hw64; replace hw64 := gtr_f hw64; clear hE a; intro a hE
  refine qs hE rfl rfl rfl (p_pick (b := false) rfl rfl) ?_; clear hE a; intro a hE
  refine wnt ?_
  refine c_false hE rfl ?_
  refine wp_skip ?_
  refine then_normal ?_
  refine wsr ?_
  refine l_step rfl (o_call hE rfl rfl rfl rfl ent_32 (empty_spec hI (hS.mono hD6)) ?_)
  clear hI hE a
  rintro r w ⟨D13, s14, q15, hD16, rfl, hP17, hI⟩ a hE
  refine qm hE rfl rfl rfl rfl rfl ?_; clear hE a; intro a hE
  refine qs hE rfl rfl rfl (f_extract rfl rfl) ?_; clear hE a; intro a hE
  refine qs hE rfl rfl rfl (f_extract rfl rfl) ?_; clear hE a; intro a hE
  refine qa hE rfl rfl rfl rfl rfl ?_; clear hE a; intro a hE
  refine qa hE rfl rfl rfl rfl rfl ?_; clear hE a; intro a hE
  refine wnt ?_
  refine wp_seq ?_
  refine wsr ?_
  refine qm hE rfl rfl rfl rfl rfl ?_; clear hE a; intro a hE
  refine qs hE rfl rfl rfl (p_eq rfl rfl (g_none rfl) (e_ptrNil Tryd.underlying52 rfl) rfl rfl) ?_; clear hE a; intro a hE
  refine wnt ?_
  refine c_false hE rfl ?_
  refine wp_skip ?_
  refine then_normal ?_
  refine wsr ?_
  refine qm hE rfl rfl rfl rfl rfl ?_; clear hE a; intro a hE
  refine l_step rfl (o_call hE rfl rfl rfl rfl ent_33 (New_spec hI E0 (some ⟨q15, 0, none⟩)) ?_)
  clear hI hE a
  rintro r w ⟨sb18, hB19, hI⟩ a hE
  obtain ⟨bb20, hvb⟩ := BatchS.ptr hB19
  subst hvb
  refine qa hE rfl rfl rfl rfl rfl ?_; clear hE a; intro a hE
  refine wnt ?_
  refine wp_seq ?_
  refine wsr ?_
  refine qa hE rfl rfl rfl rfl rfl ?_; clear hE a; intro a hE
  refine wnt ?_
  refine wp_block ?_
  refine c_loop (X := Sto × Nat × Bt × Seg × Seg) (fun y => [(0, _), (1, _), (2, _), (3, _), (9, _), (10, _), (11, _), (12, _), (13, .int .i64 (y.2.1 : Nat))]) (fun y w => y.2.1 ≤ n + 1 ∧ Le D13 y.1 ∧ Runs (newBt E0) y.2.2.1 (601 * y.2.1) ∧ Holds y.2.2.1 (kvF (fun j => [j * 4]) v y.2.1) ∧ BatchS y.1 (.pointer (some ⟨bb20, 0, none⟩)) (.pointer (some ⟨q15, 0, none⟩)) y.2.2.1 y.2.2.2.1 ∧ PoolS y.1 (.pointer (some ⟨q15, 0, none⟩)) E0 y.2.2.2.2 ∧ Inv w0 y.1 (y.2.2.2.1 :: y.2.2.2.2 :: ss) w) (fun y => n + 1 - y.2.1) (D13, 0, newBt E0, sb18, s14) (hE.pick [0, 1, 2, 3, 9, 10, 11, 12, 13]) ⟨Nat.zero_le _, Le.refl _, Runs.refl _ _, E0_holds.2, hB19, hP17, hI⟩ ?_
  clear hE hI a w
  rintro ⟨D1, i, b, sb, sp⟩ a w hE ⟨hi, hD1, hr, hh, hB1, hP1, hI⟩
  try dsimp only at hE
  try dsimp only at hi
  try dsimp only at hD1
  try dsimp only at hr
  try dsimp only at hh
  try dsimp only at hB1
  try dsimp only at hP1
  try dsimp only at hI
  refine wp_seq ?_
  refine wsr ?_
  refine qm hE rfl rfl rfl rfl rfl ?_; clear hE a; intro a hE
  refine qm hE rfl rfl rfl rfl rfl ?_; clear hE a; intro a hE
  refine l_step rfl (o_cmp hE rfl rfl rfl rfl rfl rfl ?_ ?_)
  · intro hlt; replace hlt := lss_t hlt; clear hE a; intro a hE
    refine wnt ?_
    refine c_true hE rfl ?_
    refine wp_skip ?_
    refine then_normal ?_
    refine wp_seq ?_
    refine wp_block ?_
    refine wsr ?_
    refine qm hE rfl rfl rfl rfl rfl ?_; clear hE a; intro a hE
    refine qm hE rfl rfl rfl rfl rfl ?_; clear hE a; intro a hE
    refine qs hE rfl rfl rfl (p_arith (z := ((i * 4 : Nat) : Int)) rfl rfl (mul_z (by omega) (by omega) (by omega))) ?_; clear hE a; intro a hE
    refine qs hE rfl rfl rfl (p_int (z := ((i * 4 : Nat) : Int)) Tryd.underlying3 Tryd.underlying5 rfl (by rw [u8_z]; omega)) ?_; clear hE a; intro a hE
    refine l_step rfl (f_lit (vs := [(0, _)]) (l := [_]) hE hI rfl rfl rfl rfl Tryd.underlying22 zs_5 rfl rfl rfl ?_)
    clear hI hE a w; intro a b21 w hE hI
    refine qm hE rfl rfl rfl rfl rfl ?_; clear hE a; intro a hE
    obtain ⟨D22, hD23, hIa, hb24⟩ := lit_one (n := i * 4) 0 hI (by omega) rfl
    replace hI := hIa
    clear hIa
    try simp only [splice, insAt, List.set_cons_succ, List.set_cons_zero, List.setIfInBounds_toArray, Value.cells, List.eraseIdx_cons_succ, List.eraseIdx_cons_zero, List.eraseIdx_zero, List.tail_cons] at hI
    have hrk : rightK [i * 4] = true := by simp [rightK]
    have hkl := kvF_len (fun j => [j * 4]) v i
    obtain ⟨b9, hput, hr9, hh9⟩ := runs_step (k := [i * 4]) (v := v) (AllOk.new E0_ok) hr hh (by omega) hrk (by omega)
    rw [kvF_ins (f := (fun j => [j * 4])) (fun j hj => one_lt (by omega))] at hh9
    have hrl := (Runs.len hr).1
    have he0 : (newBt E0).recs.length = 0 := rfl
    refine l_step rfl (o_call hE rfl rfl rfl rfl ent_34 (BPut_ok hI (hS.mono (((hD6.trans hD16).trans hD1).trans hD23)) (hB1.mono hD23) (hP1.mono hD23) (Runs.len hr).2 hb24 (hv.mono (((hD6.trans hD16).trans hD1).trans hD23)) (by omega) hput) ?_)
    clear hI hE a
    rintro r w ⟨rfl, D25, sb26, sp27, hD28, hB29, hP30, hI⟩ a hE
    refine qs hE rfl rfl rfl (p_ifaceNil Tryd.underlying25 rfl rfl rfl) ?_; clear hE a; intro a hE
    refine wnt ?_
    refine c_false hE rfl ?_
    refine wp_skip ?_
    refine blk_normal ?_
    refine then_normal ?_
    refine wp_region_list ?_
    refine qm hE rfl rfl rfl rfl rfl ?_; clear hE a; intro a hE
    refine qs hE rfl rfl rfl (p_arith (z := ((i + 1 : Nat) : Int)) rfl rfl (add_z (by omega) (by omega) (by omega))) ?_; clear hE a; intro a hE
    refine qa hE rfl rfl rfl rfl rfl ?_; clear hE a; intro a hE
    refine wnt ?_
    exact ⟨(D25, i + 1, b9, _, _), hE.pick [0, 1, 2, 3, 9, 10, 11, 12, 13], ⟨by show i + 1 ≤ _; omega, ((hD1.trans hD23).trans hD28), hr9, hh9, hB29, hP30, hI⟩, by show n + 1 - (i + 1) < n + 1 - i; omega⟩
  intro hlt; replace hlt := lss_f hlt; clear hE a; intro a hE
  refine wnt ?_
  refine c_false hE rfl ?_
  refine wp_exit ?_
  refine then_exit ?_
  refine then_exit ?_
  refine blk_same ?_
  refine then_normal ?_
  refine wp_seq ?_
  refine wsr ?_
  refine qm hE rfl rfl rfl rfl rfl ?_; clear hE a; intro a hE
  obtain ⟨px31, n31, hp31, hlv31, hn531, hchk31⟩ := check_ok E0_holds.2 (by simp)
  obtain ⟨c31, hw31, hch31, hk31, y31, v31, u31, hy131, hy231, hy331, hu031, hu131, hsl31, hsk31⟩ := hchk31 6 (by omega)
  refine l_step rfl (o_call hE rfl rfl rfl rfl ent_45 (Check_spec (f := 6) (hI.bring 1) hP1 (hS.mono ((hD6.trans hD16).trans hD1)) hp31 (by omega) (fun c hc _ => by rw [hw31] at hc; injection hc with hc; subst hc; exact ⟨_, _, _, hy131, hy231, hy331, hu031, hu131, hsl31, hsk31⟩)) ?_)
  clear hI hE a
  rintro r w h a hE; rcases h with ⟨c8, hr8, hch8, rfl, D32, sp33, hD34, hP35, hI⟩ | ⟨c8, hr8, hch8, rfl, _⟩ | ⟨c8, o8, hr8, rfl, _⟩
  · skip
    replace hI := hI.put_back 1
    try simp only [splice, insAt, List.set_cons_succ, List.set_cons_zero, List.setIfInBounds_toArray, Value.cells, List.eraseIdx_cons_succ, List.eraseIdx_cons_zero, List.eraseIdx_zero, List.tail_cons] at hI
    rw [hw31] at hr8; injection hr8 with hr8; subst hr8; rw [hk31] at hE
    refine qm hE rfl rfl rfl rfl rfl ?_; clear hE a; intro a hE
    refine qs hE rfl rfl rfl (f_extract rfl rfl) ?_; clear hE a; intro a hE
    refine qs hE rfl rfl rfl (f_extract rfl rfl) ?_; clear hE a; intro a hE
    refine qa hE rfl rfl rfl rfl rfl ?_; clear hE a; intro a hE
    refine qa hE rfl rfl rfl rfl rfl ?_; clear hE a; intro a hE
    refine wnt ?_
    refine wsr ?_
    refine qm hE rfl rfl rfl rfl rfl ?_; clear hE a; intro a hE
    refine qs hE rfl rfl rfl (p_ifaceNil Tryd.underlying25 rfl rfl rfl) ?_; clear hE a; intro a hE
    refine qm hE rfl rfl rfl rfl rfl ?_; clear hE a; intro a hE
    refine l_go hE rfl (o_pure hE rfl rfl (p_move rfl).run ?_); clear hE a; intro a hE
    refine l_go hE rfl (o_pure hE rfl rfl (p_cmp rfl rfl (neq_n (by simp))).run ?_); clear hE a; intro a hE
    refine qs hE rfl rfl rfl (p_pick (b := false) rfl rfl) ?_; clear hE a; intro a hE
    refine wnt ?_
    refine c_false hE rfl ?_
    refine wp_skip ?_
    refine then_normal ?_
    refine wsr ?_
    refine qm hE rfl rfl rfl rfl rfl ?_; clear hE a; intro a hE
    refine qm hE rfl rfl rfl rfl rfl ?_; clear hE a; intro a hE
    have hi9 : i = n + 1 := by omega
    subst hi9
    have hrl := (Runs.len hr).1
    have he0 : (newBt E0).recs.length = 0 := rfl
    have hkl := kvF_len (fun j => [j * 4]) v (n + 1)
    obtain ⟨_, P9, hlaid, hPH⟩ := laid_holds E0_ok (by omega) hr (by omega) hh (by omega)
    refine l_step rfl (o_call hE rfl rfl rfl rfl ent_37 (Redo_ok hI (hS.mono (((hD6.trans hD16).trans hD1).trans hD34)) (hB1.mono hD34) hP35 (Runs.len hr).2 (by omega)) ?_)
    clear hI hE a
    rintro r w ⟨D36, sb37, sp38, hD39, hL40, hB41, hP42, hI⟩ a hE
    obtain ⟨A43, c44, rfl, _⟩ := hL40.slice
    refine qm hE rfl rfl rfl rfl rfl ?_; clear hE a; intro a hE
    refine l_step rfl (o_call hE rfl rfl rfl rfl ent_36 (laid_spec (hI.bring 1) hP42 (hS.mono ((((hD6.trans hD16).trans hD1).trans hD34).trans hD39)) hL40 (n := 4) (by omega) (by omega) (by omega)) ?_)
    clear hI hE a
    rintro r w h a hE; rcases h with ⟨D45, s46, P47, hD48, hP49, hI, ⟨m50, hla51, rfl⟩ | ⟨hla51, m50, rfl⟩⟩
    · skip
      replace hI := hI.put_back 1
      try simp only [splice, insAt, List.set_cons_succ, List.set_cons_zero, List.setIfInBounds_toArray, Value.cells, List.eraseIdx_cons_succ, List.eraseIdx_cons_zero, List.eraseIdx_zero, List.tail_cons] at hI
      rw [hlaid] at hla51
      injection hla51 with hla51
      injection hla51 with hz1 hz2
      subst hz1
      subst hz2
      refine qm hE rfl rfl rfl rfl rfl ?_; clear hE a; intro a hE
      refine qs hE rfl rfl rfl (f_extract rfl rfl) ?_; clear hE a; intro a hE
      refine qs hE rfl rfl rfl (f_extract rfl rfl) ?_; clear hE a; intro a hE
      refine qa hE rfl rfl rfl rfl rfl ?_; clear hE a; intro a hE
      refine qa hE rfl rfl rfl rfl rfl ?_; clear hE a; intro a hE
      refine wnt ?_
      refine wp_seq ?_
      refine wsr ?_
      refine qm hE rfl rfl rfl rfl rfl ?_; clear hE a; intro a hE
      refine qs hE rfl rfl rfl (p_not rfl) ?_; clear hE a; intro a hE
      refine wnt ?_
      refine c_false hE rfl ?_
      refine wp_skip ?_
      refine then_normal ?_
      refine wsr ?_
      refine qm hE rfl rfl rfl rfl rfl ?_; clear hE a; intro a hE
      refine l_step rfl (o_call hE rfl rfl rfl rfl ent_33 (New_spec hI P9 (some ⟨q15, 0, none⟩)) ?_)
      clear hI hE a
      rintro r w ⟨sb52, hB53, hI⟩ a hE
      obtain ⟨bb54, hvb⟩ := BatchS.ptr hB53
      subst hvb
      refine qa hE rfl rfl rfl rfl rfl ?_; clear hE a; intro a hE
      refine wnt ?_
      refine wp_seq ?_
      refine wsr ?_
      refine qm hE rfl rfl rfl rfl rfl ?_; clear hE a; intro a hE
      refine qm hE rfl rfl rfl rfl rfl ?_; clear hE a; intro a hE
      refine qs hE rfl rfl rfl (p_arith (z := ((at9 * 4 : Nat) : Int)) rfl rfl (mul_z (by omega) (by omega) (by omega))) ?_; clear hE a; intro a hE
      refine qs hE rfl rfl rfl (p_int (z := ((at9 * 4 : Nat) : Int)) Tryd.underlying3 Tryd.underlying5 rfl (by rw [u8_z]; omega)) ?_; clear hE a; intro a hE
      refine l_step rfl (f_lit (vs := [(0, _)]) (l := [_]) hE hI rfl rfl rfl rfl Tryd.underlying22 zs_5 rfl rfl rfl ?_)
      clear hI hE a w; intro a b55 w hE hI
      refine qm hE rfl rfl rfl rfl rfl ?_; clear hE a; intro a hE
      obtain ⟨D56, hD57, hIa, hb58⟩ := lit_one (n := at9 * 4) 0 hI (by omega) rfl
      replace hI := hIa
      clear hIa
      try simp only [splice, insAt, List.set_cons_succ, List.set_cons_zero, List.setIfInBounds_toArray, Value.cells, List.eraseIdx_cons_succ, List.eraseIdx_cons_zero, List.eraseIdx_zero, List.tail_cons] at hI
      have hrk9 : rightK [at9 * 4] = true := by simp [rightK]
      obtain ⟨b5, hput5, hr5, hh5⟩ := runs_step (i := 0) (k := [at9 * 4]) (v := w4) (AllOk.new hPH.1) (Runs.refl _ _) hPH.2 (by omega) hrk9 (by omega)
      have hlk9 := kvF_look (f := (fun j => [j * 4])) (v := v) (n := n + 1) (i := at9) (fun a b h1 h2 => one_lt (by omega)) hal
      obtain ⟨r5, hrec5, hkd5⟩ := put_change hPH.2 (by omega) hrk9 (by omega) hlk9 hput5
      have hrl5 : b5.recs.length = 1 := by rw [hrec5]; rfl
      replace hI := hI.bring 2
      replace hI := hI.bring 1
      refine l_step rfl (o_call hE rfl rfl rfl rfl ent_34 (BPut_ok hI (hS.mono ((((((hD6.trans hD16).trans hD1).trans hD34).trans hD39).trans hD48).trans hD57)) (hB53.mono hD57) (hP49.mono hD57) rfl hb58 (hw.mono ((((((hD6.trans hD16).trans hD1).trans hD34).trans hD39).trans hD48).trans hD57)) (by show (0 : Nat) ≤ _; omega) hput5) ?_)
      clear hI hE a
      rintro r w ⟨rfl, D59, sb60, sp61, hD62, hB63, hP64, hI⟩ a hE
      refine qs hE rfl rfl rfl (p_ifaceNil Tryd.underlying25 rfl rfl rfl) ?_; clear hE a; intro a hE
      refine wnt ?_
      refine c_false hE rfl ?_
      refine wp_skip ?_
      refine then_normal ?_
      refine wsr ?_
      refine qm hE rfl rfl rfl rfl rfl ?_; clear hE a; intro a hE
      refine l_step rfl (o_call hE rfl rfl rfl rfl ent_33 (New_spec hI P9 (some ⟨q15, 0, none⟩)) ?_)
      clear hI hE a
      rintro r w ⟨sb65, hB66, hI⟩ a hE
      obtain ⟨bb67, hvb⟩ := BatchS.ptr hB66
      subst hvb
      refine qm hE rfl rfl rfl rfl rfl ?_; clear hE a; intro a hE
      refine qs hE rfl rfl rfl (p_arith (z := ((at9 * 4 : Nat) : Int)) rfl rfl (mul_z (by omega) (by omega) (by omega))) ?_; clear hE a; intro a hE
      refine qs hE rfl rfl rfl (p_int (z := ((at9 * 4 : Nat) : Int)) Tryd.underlying3 Tryd.underlying5 rfl (by rw [u8_z]; omega)) ?_; clear hE a; intro a hE
      refine l_step rfl (f_lit (vs := [(0, _)]) (l := [_]) hE hI rfl rfl rfl rfl Tryd.underlying22 zs_5 rfl rfl rfl ?_)
      clear hI hE a w; intro a b68 w hE hI
      obtain ⟨D69, hD70, hIa, hb71⟩ := lit_one (n := at9 * 4) 0 hI (by omega) rfl
      replace hI := hIa
      clear hIa
      try simp only [splice, insAt, List.set_cons_succ, List.set_cons_zero, List.setIfInBounds_toArray, Value.cells, List.eraseIdx_cons_succ, List.eraseIdx_cons_zero, List.eraseIdx_zero, List.tail_cons] at hI
      replace hI := hI.bring 2
      replace hI := hI.bring 1
      refine l_step rfl (o_call hE rfl rfl rfl rfl ent_35 (BGet_ok (res := some v) hI (hS.mono ((((((((hD6.trans hD16).trans hD1).trans hD34).trans hD39).trans hD48).trans hD57).trans hD62).trans hD70)) (hB66.mono hD70) (hP64.mono hD70) rfl hb71 ((hPH.2.get (by omega) hrk9).trans (by rw [hlk9]))) ?_)
      clear hI hE a
      rintro r w ⟨D72, vr73, sb74, sp75, hD76, rfl, hr77, hB78, hP79, hI⟩ a hE
      replace hr77 : RB D72 vr73 v := hr77
      obtain ⟨A80, c81, rfl, _⟩ := hr77.slice
      refine qm hE rfl rfl rfl rfl rfl ?_; clear hE a; intro a hE
      refine qs hE rfl rfl rfl (f_extract rfl rfl) ?_; clear hE a; intro a hE
      refine qs hE rfl rfl rfl (f_extract rfl rfl) ?_; clear hE a; intro a hE
      refine qs hE rfl rfl rfl (f_extract rfl rfl) ?_; clear hE a; intro a hE
      refine qa hE rfl rfl rfl rfl rfl ?_; clear hE a; intro a hE
      refine qa hE rfl rfl rfl rfl rfl ?_; clear hE a; intro a hE
      refine qa hE rfl rfl rfl rfl rfl ?_; clear hE a; intro a hE
      refine wnt ?_
      refine wsr ?_
      refine qm hE rfl rfl rfl rfl rfl ?_; clear hE a; intro a hE
      refine qm hE rfl rfl rfl rfl rfl ?_; clear hE a; intro a hE
      refine qs hE rfl rfl rfl (p_arith (z := ((at9 * 4 : Nat) : Int)) rfl rfl (mul_z (by omega) (by omega) (by omega))) ?_; clear hE a; intro a hE
      refine qs hE rfl rfl rfl (p_int (z := ((at9 * 4 : Nat) : Int)) Tryd.underlying3 Tryd.underlying5 rfl (by rw [u8_z]; omega)) ?_; clear hE a; intro a hE
      refine l_step rfl (f_lit (vs := [(0, _)]) (l := [_]) hE hI rfl rfl rfl rfl Tryd.underlying22 zs_5 rfl rfl rfl ?_)
      clear hI hE a w; intro a b82 w hE hI
      obtain ⟨D83, hD84, hIa, hb85⟩ := lit_one (n := at9 * 4) 0 hI (by omega) rfl
      replace hI := hIa
      clear hIa
      try simp only [splice, insAt, List.set_cons_succ, List.set_cons_zero, List.setIfInBounds_toArray, Value.cells, List.eraseIdx_cons_succ, List.eraseIdx_cons_zero, List.eraseIdx_zero, List.tail_cons] at hI
      replace hI := hI.bring 1
      replace hI := hI.bring 2
      refine l_step rfl (o_call hE rfl rfl rfl rfl ent_35 (BGet_ok (res := some w4) hI (hS.mono ((((((((((hD6.trans hD16).trans hD1).trans hD34).trans hD39).trans hD48).trans hD57).trans hD62).trans hD70).trans hD76).trans hD84)) (hB63.mono ((hD70.trans hD76).trans hD84)) (hP79.mono hD84) ((Runs.len hr5).2) hb85 ((hh5.get (by have := insKv_len (k := [at9 * 4]) (v := w4) (kvF (fun j => [j * 4]) v (n + 1)); omega) hrk9).trans (by rw [lookKv_same hPH.2.sorted]))) ?_)
      clear hI hE a
      rintro r w ⟨D86, vr87, sb88, sp89, hD90, rfl, hr91, hB92, hP93, hI⟩ a hE
      replace hr91 : RB D86 vr87 w4 := hr91
      obtain ⟨A94, c95, rfl, _⟩ := hr91.slice
      refine qm hE rfl rfl rfl rfl rfl ?_; clear hE a; intro a hE
      refine qs hE rfl rfl rfl (f_extract rfl rfl) ?_; clear hE a; intro a hE
      refine qs hE rfl rfl rfl (f_extract rfl rfl) ?_; clear hE a; intro a hE
      refine qs hE rfl rfl rfl (f_extract rfl rfl) ?_; clear hE a; intro a hE
      refine qa hE rfl rfl rfl rfl rfl ?_; clear hE a; intro a hE
      refine qa hE rfl rfl rfl rfl rfl ?_; clear hE a; intro a hE
      refine qa hE rfl rfl rfl rfl rfl ?_; clear hE a; intro a hE
      refine wnt ?_
      refine wsr ?_
      refine qm hE rfl rfl rfl rfl rfl ?_; clear hE a; intro a hE
      refine l_step rfl (o_call hE rfl rfl rfl rfl ent_37 (Redo_ok hI (hS.mono (((((((((((hD6.trans hD16).trans hD1).trans hD34).trans hD39).trans hD48).trans hD57).trans hD62).trans hD70).trans hD76).trans hD84).trans hD90)) hB92 hP93 ((Runs.len hr5).2) (by omega)) ?_)
      clear hI hE a
      rintro r w ⟨D96, sb97, sp98, hD99, hL100, hB101, hP102, hI⟩ a hE
      obtain ⟨A103, c104, rfl, _⟩ := hL100.slice
      refine qa hE rfl rfl rfl rfl rfl ?_; clear hE a; intro a hE
      refine wnt ?_
      refine wp_seq ?_
      refine wp_seq ?_
      have hkind9 : ∀ x, b5.recs[0]? = some x → x.kind = 4 := by
        intro x hx
        rw [hrec5] at hx
        have h8 : r5 = x := by simpa [newBt] using hx
        rw [← h8]; exact hkd5
      refine wp_region_list ?_
      refine qm hE rfl rfl rfl rfl rfl ?_; clear hE a; intro a hE
      refine qm hE rfl rfl rfl rfl rfl ?_; clear hE a; intro a hE
      refine l_step rfl (o_call hE rfl rfl rfl rfl ent_18 (SameBytes_spec hI (hr77.mono ((hD84.trans hD90).trans hD99)) (hv.mono ((((((((((((hD6.trans hD16).trans hD1).trans hD34).trans hD39).trans hD48).trans hD57).trans hD62).trans hD70).trans hD76).trans hD84).trans hD90).trans hD99)) (by omega)) ?_)
      clear hI hE a
      rintro r w h a hE; rcases h with ⟨rfl, hsm105, hI⟩ | ⟨rfl, hsm105, hI⟩
      · skip
        refine qs hE rfl rfl rfl (p_not rfl) ?_; clear hE a; intro a hE
        refine qm hE rfl rfl rfl rfl rfl ?_; clear hE a; intro a hE
        refine l_go hE rfl (o_pure hE rfl rfl (p_move rfl).run ?_); clear hE a; intro a hE
        refine l_go hE rfl (o_pure hE rfl rfl (p_move rfl).run ?_); clear hE a; intro a hE
        refine l_go hE rfl (o_call hE rfl rfl rfl rfl ent_18 (SameBytes_spec hI (hr91.mono hD99) (hw.mono ((((((((((((hD6.trans hD16).trans hD1).trans hD34).trans hD39).trans hD48).trans hD57).trans hD62).trans hD70).trans hD76).trans hD84).trans hD90).trans hD99)) (by omega)) ?_)
        clear hI hE a
        rintro r w h a hE; rcases h with ⟨rfl, hsm106, hI⟩ | ⟨rfl, hsm106, hI⟩
        · skip
          refine l_go hE rfl (o_pure hE rfl rfl (p_not rfl).run ?_); clear hE a; intro a hE
          refine qs hE rfl rfl rfl (p_pick (b := false) rfl rfl) ?_; clear hE a; intro a hE
          refine qm hE rfl rfl rfl rfl rfl ?_; clear hE a; intro a hE
          refine l_go hE rfl (o_pure hE rfl rfl (p_move rfl).run ?_); clear hE a; intro a hE
          refine l_go hE rfl (o_pure hE rfl rfl (p_len rfl rfl Tryd.underlying62).run ?_); clear hE a; intro a hE
          refine l_go hE rfl (o_pure hE rfl rfl (p_cmp rfl rfl (neq_n (by omega))).run ?_); clear hE a; intro a hE
          refine qs hE rfl rfl rfl (p_pick (b := false) rfl rfl) ?_; clear hE a; intro a hE
          refine qm hE rfl rfl rfl rfl rfl ?_; clear hE a; intro a hE
          refine l_go hE rfl (o_pure hE rfl rfl (p_move rfl).run ?_); clear hE a; intro a hE
          obtain ⟨x_107, hx_107⟩ : ∃ z9, (b5.recs)[0]? = some z9 := ⟨_, List.getElem?_eq_getElem (by omega)⟩
          obtain ⟨b_107, o_107, cs_107, T_107, fr_107, rfl, hb_107, hat_107⟩ := hL100.at_ (by intro h0; rw [h0] at hx_107; simp at hx_107)
          obtain ⟨vs_107, hl_107, ⟨k_107, v_107, rfl, hk_107, hv_107, hok_107⟩, hex_107, hsz_107, hce_107⟩ := hat_107.extract hx_107 (by omega)
          obtain ⟨A108, c109, rfl, _⟩ := hk_107.slice
          obtain ⟨A110, c111, rfl, _⟩ := hv_107.slice
          refine l_go hE rfl (o_pure hE rfl rfl (p_indexAddr (m := o_107 + 0 * 10) rfl rfl Tryd.underlying62 sz_88 (by omega) (by omega) (by simp)).run ?_); clear hE a; intro a hE
          refine l_go hE rfl (o_pure hE rfl rfl (p_fieldAddr rfl fo_88_5 rfl).run ?_); clear hE a; intro a hE
          refine l_go hE rfl (o_pure hE rfl rfl (r_load rfl scal_3 (hI.data _ _ (hb_107)) (hce_107 5 _ rfl)) ?_); clear hE a; intro a hE
          refine l_go hE rfl (o_pure hE rfl rfl (p_cmp rfl rfl (neq_n (hkind9 _ hx_107))).run ?_); clear hE a; intro a hE
          refine qs hE rfl rfl rfl (p_pick (b := false) rfl rfl) ?_; clear hE a; intro a hE
          refine wnt ?_
          refine c_false hE rfl ?_
          refine wp_skip ?_
          refine then_normal ?_
          refine wp_seq ?_
          refine wsr ?_
          refine qm hE rfl rfl rfl rfl rfl ?_; clear hE a; intro a hE
          refine qm hE rfl rfl rfl rfl rfl ?_; clear hE a; intro a hE
          refine qm hE rfl rfl rfl rfl rfl ?_; clear hE a; intro a hE
          obtain ⟨_, P8, hlaid8, hPH8⟩ := laid_holds hPH.1 (by omega) hr5 (by omega) hh5 (by have := insKv_there (v := w4) hlk9; omega)
          refine l_step rfl (o_call hE rfl rfl rfl rfl ent_36 (laid_spec (hI.bring 1) hP102 (hS.mono ((((((((((((hD6.trans hD16).trans hD1).trans hD34).trans hD39).trans hD48).trans hD57).trans hD62).trans hD70).trans hD76).trans hD84).trans hD90).trans hD99)) hL100 (n := (4 + (b.recs.length : Nat))) (by omega) (by omega) (by omega)) ?_)
          clear hI hE a
          rintro r w h a hE; rcases h with ⟨D112, s113, P114, hD115, hP116, hI, ⟨m117, hla118, rfl⟩ | ⟨hla118, m117, rfl⟩⟩
          · skip
            replace hI := hI.put_back 1
            try simp only [splice, insAt, List.set_cons_succ, List.set_cons_zero, List.setIfInBounds_toArray, Value.cells, List.eraseIdx_cons_succ, List.eraseIdx_cons_zero, List.eraseIdx_zero, List.tail_cons] at hI
            rw [hlaid8] at hla118
            injection hla118 with hla118
            injection hla118 with hz1 hz2
            subst hz1
            subst hz2
            refine qm hE rfl rfl rfl rfl rfl ?_; clear hE a; intro a hE
            refine qs hE rfl rfl rfl (f_extract rfl rfl) ?_; clear hE a; intro a hE
            refine qs hE rfl rfl rfl (f_extract rfl rfl) ?_; clear hE a; intro a hE
            refine qa hE rfl rfl rfl rfl rfl ?_; clear hE a; intro a hE
            refine qa hE rfl rfl rfl rfl rfl ?_; clear hE a; intro a hE
            refine wnt ?_
            refine wsr ?_
            refine qm hE rfl rfl rfl rfl rfl ?_; clear hE a; intro a hE
            refine qs hE rfl rfl rfl (p_not rfl) ?_; clear hE a; intro a hE
            refine wnt ?_
            refine c_false hE rfl ?_
            refine wp_skip ?_
            refine then_normal ?_
            refine wsr ?_
            refine qm hE rfl rfl rfl rfl rfl ?_; clear hE a; intro a hE
            obtain ⟨px119, n119, hp119, hlv119, hn5119, hchk119⟩ := check_ok hPH8.2 (by have := insKv_there (v := w4) hlk9; omega)
            obtain ⟨c119, hw119, hch119, hk119, y119, v119, u119, hy1119, hy2119, hy3119, hu0119, hu1119, hsl119, hsk119⟩ := hchk119 6 (by omega)
            refine l_step rfl (o_call hE rfl rfl rfl rfl ent_45 (Check_spec (f := 6) (hI.bring 1) hP116 (hS.mono (((((((((((((hD6.trans hD16).trans hD1).trans hD34).trans hD39).trans hD48).trans hD57).trans hD62).trans hD70).trans hD76).trans hD84).trans hD90).trans hD99).trans hD115)) hp119 (by omega) (fun c hc _ => by rw [hw119] at hc; injection hc with hc; subst hc; exact ⟨_, _, _, hy1119, hy2119, hy3119, hu0119, hu1119, hsl119, hsk119⟩)) ?_)
            clear hI hE a
            rintro r w h a hE; rcases h with ⟨c8, hr8, hch8, rfl, D120, sp121, hD122, hP123, hI⟩ | ⟨c8, hr8, hch8, rfl, _⟩ | ⟨c8, o8, hr8, rfl, _⟩
            · skip
              replace hI := hI.put_back 1
              try simp only [splice, insAt, List.set_cons_succ, List.set_cons_zero, List.setIfInBounds_toArray, Value.cells, List.eraseIdx_cons_succ, List.eraseIdx_cons_zero, List.eraseIdx_zero, List.tail_cons] at hI
              rw [hw119] at hr8; injection hr8 with hr8; subst hr8; rw [hk119] at hE
              refine qm hE rfl rfl rfl rfl rfl ?_; clear hE a; intro a hE
              refine qs hE rfl rfl rfl (f_extract rfl rfl) ?_; clear hE a; intro a hE
              refine qs hE rfl rfl rfl (f_extract rfl rfl) ?_; clear hE a; intro a hE
              refine qa hE rfl rfl rfl rfl rfl ?_; clear hE a; intro a hE
              refine qa hE rfl rfl rfl rfl rfl ?_; clear hE a; intro a hE
              refine wnt ?_
              refine wsr ?_
              refine qm hE rfl rfl rfl rfl rfl ?_; clear hE a; intro a hE
              refine qm hE rfl rfl rfl rfl rfl ?_; clear hE a; intro a hE
              refine l_go hE rfl (o_pure hE rfl rfl (p_move rfl).run ?_); clear hE a; intro a hE
              refine l_go hE rfl (o_pure hE rfl rfl (p_ifaceNil Tryd.underlying25 rfl rfl rfl).run ?_); clear hE a; intro a hE
              refine qs hE rfl rfl rfl (p_pick (b := true) rfl rfl) ?_; clear hE a; intro a hE
              refine qm hE rfl rfl rfl rfl rfl ?_; clear hE a; intro a hE
              refine l_go hE rfl (o_pure hE rfl rfl (p_move rfl).run ?_); clear hE a; intro a hE
              refine l_go hE rfl (o_pure hE rfl rfl (p_move rfl).run ?_); clear hE a; intro a hE
              refine l_go hE rfl (o_pure hE rfl rfl (p_cmp rfl rfl (eql_y (by rw [insKv_there (v := w4) hlk9, kvF_len]))).run ?_); clear hE a; intro a hE
              refine qs hE rfl rfl rfl (p_pick (b := true) rfl rfl) ?_; clear hE a; intro a hE
              refine qa hE rfl rfl rfl rfl rfl ?_; clear hE a; intro a hE
              refine wnt ?_
              refine wp_ret ?_
              refine ret1 rfl hE rfl ?_
              exact ⟨rfl, _, ((((((((((((((hD6.trans hD16).trans hD1).trans hD34).trans hD39).trans hD48).trans hD57).trans hD62).trans hD70).trans hD76).trans hD84).trans hD90).trans hD99).trans hD115).trans hD122), hI.drop.drop.drop.drop⟩
            · skip
              exfalso
              first | (rw [hw119] at hr8; injection hr8 with hr8; subst hr8; rw [hch119] at hch8; cases hch8) | (rw [hw119] at hr8; cases hr8)
            exfalso
            first | (rw [hw119] at hr8; injection hr8 with hr8; subst hr8; rw [hch119] at hch8; cases hch8) | (rw [hw119] at hr8; cases hr8)
          exfalso
          rw [hlaid8] at hla118; cases hla118
        exfalso
        exact hsm106 rfl
      exfalso
      exact hsm105 rfl
    exfalso
    rw [hlaid] at hla51; cases hla51
  · skip
    exfalso
    first | (rw [hw31] at hr8; injection hr8 with hr8; subst hr8; rw [hch31] at hch8; cases hch8) | (rw [hw31] at hr8; cases hr8)
  exfalso
  first | (rw [hw31] at hr8; injection hr8 with hr8; subst hr8; rw [hch31] at hch8; cases hch8) | (rw [hw31] at hr8; cases hr8)
end Go.Proofs.YtbogbnkckofpdaaDoor.B
