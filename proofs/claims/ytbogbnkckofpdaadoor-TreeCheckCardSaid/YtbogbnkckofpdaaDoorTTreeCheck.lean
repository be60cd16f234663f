/- What functions of the program compute, each function once: steps over the model, and the plain law of it. -/
import Derived.Test.YtbogbnkckofpdaaDoorTValues
import Derived.Test.YtbogbnkckofpdaaDoorTDescP
namespace Go.Proofs.YtbogbnkckofpdaaDoor.B
open Go Go.Proofs
set_option linter.unusedVariables false
set_option linter.unusedSimpArgs false
set_option maxRecDepth 20000
set_option maxHeartbeats 8000000
namespace FTTreeCheck
theorem agg_88 : aggSize Tryd.prog 88 = some 10 := by kernel_rfl
theorem built_88 : ∀ vs, Tryd.prog.built 88 vs = Instr.fill (([(0, 1), (1, 1), (2, 1), (3, 1), (4, 1), (5, 1), (6, 1), (7, 1), (8, 1), (9, 1)] : List (Nat × Nat)).toArray[·]?) ([.int .i64 0, .int .i64 0, .int .i64 0, .int .i64 0, .int .i64 0, .int .i64 0, .int .i64 0, .slice none 0 0, .slice none 0 0, .bool false] : List Value).toArray vs := fun _ => by kernel_rfl
theorem ent_17 : enters Tryd.prog 17 = true := by kernel_rfl
theorem ent_20 : enters Tryd.prog 20 = true := by kernel_rfl
theorem ent_22 : enters Tryd.prog 22 = true := by kernel_rfl
theorem ent_30 : enters Tryd.prog 30 = true := by kernel_rfl
theorem ent_32 : enters Tryd.prog 32 = true := by kernel_rfl
theorem ent_33 : enters Tryd.prog 33 = true := by kernel_rfl
theorem ent_34 : enters Tryd.prog 34 = true := by kernel_rfl
theorem ent_36 : enters Tryd.prog 36 = true := by kernel_rfl
theorem ent_37 : enters Tryd.prog 37 = true := by kernel_rfl
theorem ent_45 : enters Tryd.prog 45 = true := by kernel_rfl
theorem ent_46 : enters Tryd.prog 46 = true := by kernel_rfl
theorem ent_47 : enters Tryd.prog 47 = true := by kernel_rfl
theorem fo_69_0 : fieldOff Tryd.prog 69 0 = some 0 := by kernel_rfl
theorem fo_69_1 : fieldOff Tryd.prog 69 1 = some 1 := by kernel_rfl
theorem fo_83_2 : fieldOff Tryd.prog 83 2 = some 2 := by kernel_rfl
theorem fo_83_4 : fieldOff Tryd.prog 83 4 = some 4 := by kernel_rfl
theorem scal_22 : isScal Tryd.prog 22 = true := by kernel_rfl
theorem scal_3 : isScal Tryd.prog 3 = true := by kernel_rfl
theorem scal_5 : isScal Tryd.prog 5 = true := by kernel_rfl
theorem scal_65 : isScal Tryd.prog 65 = true := by kernel_rfl
theorem sz_5 : (Tryd.prog.info? 5).map (·.size) = some 1 := by kernel_rfl
theorem sz_69 : (Tryd.prog.info? 69).map (·.size) = some 2 := by kernel_rfl
theorem sz_83 : (Tryd.prog.info? 83).map (·.size) = some 5 := by kernel_rfl
theorem sz_88 : (Tryd.prog.info? 88).map (·.size) = some 10 := by kernel_rfl
theorem zer_83 : (Tryd.prog.info? 83).bind (·.zero) = some (.agg #[.int .i64 0, .int .i64 0, .int .i64 0, .int .i64 0, .slice none 0 0]) := by kernel_rfl
theorem zer_88 : (Tryd.prog.info? 88).bind (·.zero) = some (.agg #[.int .i64 0, .int .i64 0, .int .i64 0, .int .i64 0, .int .i64 0, .int .i64 0, .int .i64 0, .slice none 0 0, .slice none 0 0, .bool false]) := by kernel_rfl
theorem zs_5 : (Tryd.prog.info? 5).map (fun i => (i.zero, i.size)) = some (some (.int .u8 0), 1) := by kernel_rfl
end FTTreeCheck
open FTTreeCheck
theorem TreeCheck_spec {w0 w : World} {D : Sto} {ss : List Seg} (hI : Inv w0 D ss w) {ad : Nat → Addr} (hS17 : Sents D ad) (i0 i1 i2 : Int) :
  Calls Tryd.prog 10 #[.int .i64 i0, .int .i64 i1, .int .i64 i2] w (Ret fun r w' => r = .bool true ∧ ∃ D', Le D D' ∧ Inv w0 D' ss w') := by
 have hS := hS17.t
 refine enter (N := 177) Tryd.func10 rfl rfl rfl ?_
 intro a hE
 refine wsr ?_
 refine za hE ?_; clear hE a; intro a hE
 refine wnt ?_
 refine wsr ?_
 refine l_step rfl (o_call hE rfl rfl rfl rfl ent_30 (first21_spec hI hS) ?_)
 clear hI hE a
 rintro r w ⟨D1, hD2, hI, rfl⟩ a hE
 refine za hE ?_; clear hE a; intro a hE
 refine wnt ?_
 refine wp_seq ?_
 refine wsr ?_
 refine zm hE ?_; clear hE a; intro a hE
 refine zs hE (p_not rfl) ?_; clear hE a; intro a hE
 refine wnt ?_
 refine c_false hE rfl ?_
 refine wp_skip ?_
 refine then_normal ?_
 refine wsr ?_
 refine zm hE ?_; clear hE a; intro a hE
 refine l_step rfl (o_call hE rfl rfl rfl rfl ent_20 (Number_spec (m := 40) hI _ (by omega) (by omega)) ?_)
 clear hI hE a
 rintro r w ⟨⟨z3, rfl, hz4, hz5⟩, hI⟩ a hE
 obtain ⟨n, hn9⟩ : ∃ n : Nat, z3 = n := ⟨z3.toNat, by omega⟩
 subst hn9
 refine zs hE (p_arith (z := ((n + 2 : Nat) : Int)) rfl rfl (add_z (by omega) (by omega) (by omega))) ?_; clear hE a; intro a hE
 refine za hE ?_; clear hE a; intro a hE
 refine wnt ?_
 refine wsr ?_
 refine l_step rfl (o_call hE rfl rfl rfl rfl ent_32 (empty_spec hI (hS.mono hD2)) ?_)
 clear hI hE a
 rintro r w ⟨D6, s7, q8, hD9, rfl, hP10, hI⟩ a hE
 refine zm hE ?_; clear hE a; intro a hE
 refine zx hE ?_; clear hE a; intro a hE
 refine zx hE ?_; clear hE a; intro a hE
 refine za hE ?_; clear hE a; intro a hE
 refine za hE ?_; clear hE a; intro a hE
 refine wnt ?_
 refine wp_seq ?_
 refine wsr ?_
 refine zm hE ?_; clear hE a; intro a hE
 refine zs hE (p_eq rfl rfl (g_none rfl) (e_ptrNil Tryd.underlying52 rfl) rfl rfl) ?_; clear hE a; intro a hE
 refine wnt ?_
 refine c_false hE rfl ?_
 refine wp_skip ?_
 refine then_normal ?_
 refine wsr ?_
 refine zm hE ?_; clear hE a; intro a hE
 refine l_step rfl (o_call hE rfl rfl rfl rfl ent_33 (New_spec hI E0 (some ⟨q8, 0, none⟩)) ?_)
 clear hI hE a
 rintro r w ⟨sb11, hB12, hI⟩ a hE
 obtain ⟨bb13, hvb⟩ := BatchS.ptr hB12
 subst hvb
 refine za hE ?_; clear hE a; intro a hE
 refine wnt ?_
 refine wp_seq ?_
 refine wsr ?_
 refine za hE ?_; clear hE a; intro a hE
 refine wnt ?_
 refine wp_block ?_
 refine c_loop (X := Sto × Nat × Bt × Seg × Seg) (fun y => [(0, _), (1, _), (2, _), (7, _), (8, _), (9, _), (10, _), (11, .int .i64 (y.2.1 : Nat))]) (fun y w => y.2.1 ≤ n + 2 ∧ Le D6 y.1 ∧ Runs (newBt E0) y.2.2.1 (601 * y.2.1) ∧ Holds y.2.2.1 (kvF (fun j => [j + 1]) [] y.2.1) ∧ BatchS y.1 (.pointer (some ⟨bb13, 0, none⟩)) (.pointer (some ⟨q8, 0, none⟩)) y.2.2.1 y.2.2.2.1 ∧ PoolS y.1 (.pointer (some ⟨q8, 0, none⟩)) E0 y.2.2.2.2 ∧ Inv w0 y.1 (y.2.2.2.1 :: y.2.2.2.2 :: ss) w) (fun y => n + 2 - y.2.1) (D6, 0, newBt E0, sb11, s7) (hE.pick [0, 1, 2, 7, 8, 9, 10, 11]) ⟨Nat.zero_le _, Le.refl _, Runs.refl _ _, E0_holds.2, hB12, hP10, hI⟩ ?_
 clear hE hI a w
 rintro ⟨Da, i, b, sb, sp⟩ a w hE ⟨hi, hDa, hr, hh, hB1, hP1, hI⟩
 try dsimp only at hE
 try dsimp only at hi
 try dsimp only at hDa
 try dsimp only at hr
 try dsimp only at hh
 try dsimp only at hB1
 try dsimp only at hP1
 try dsimp only at hI
 refine wp_seq ?_
 refine wsr ?_
 refine zm hE ?_; clear hE a; intro a hE
 refine zm hE ?_; clear hE a; intro a hE
 refine l_step rfl (o_cmp hE rfl rfl rfl rfl rfl rfl ?_ ?_)
 ·intro hlt; replace hlt := lss_t hlt; clear hE a; intro a hE
  refine wnt ?_
  refine c_true hE rfl ?_
  refine wp_skip ?_
  refine then_normal ?_
  refine wp_seq ?_
  refine wp_block ?_
  refine wsr ?_
  refine zm hE ?_; clear hE a; intro a hE
  refine zm hE ?_; clear hE a; intro a hE
  refine zs hE (p_arith (z := ((i + 1 : Nat) : Int)) rfl rfl (add_z (by omega) (by omega) (by omega))) ?_; clear hE a; intro a hE
  refine zs hE (p_int (z := ((i + 1 : Nat) : Int)) Tryd.underlying3 Tryd.underlying5 rfl (by rw [u8_z]; omega)) ?_; clear hE a; intro a hE
  refine l_step rfl (f_lit (vs := [(0, _)]) (l := [_]) hE hI rfl rfl rfl rfl Tryd.underlying22 zs_5 rfl rfl rfl ?_)
  clear hI hE a w; intro a b14 w hE hI
  obtain ⟨D15, hD16, hIa, hb17⟩ := lit_one (n := i + 1) 0 hI (by omega) rfl
  replace hI := hIa
  clear hIa
  try simp only [nrm, Value.cells] at hI
  have hrk : rightK [i + 1] = true := by simp [rightK]
  have hkl := kvF_len (fun j => [j + 1]) [] i
  obtain ⟨b9, hput, hr9, hh9⟩ := runs_step (k := [i + 1]) (v := []) (AllOk.new E0_ok) hr hh (by omega) hrk (by simp)
  rw [kvF_ins (f := (fun j => [j + 1])) (fun j hj => one_lt (by omega))] at hh9
  have hrl := (Runs.len hr).1
  have he0 : (newBt E0).recs.length = 0 := rfl
  refine l_step rfl (o_call hE rfl rfl rfl rfl ent_34 (BPut_ok hI (hS.mono (((hD2.trans hD9).trans hDa).trans hD16)) (hB1.mono hD16) (hP1.mono hD16) (Runs.len hr).2 hb17 (RB.nil _) (by omega) hput) ?_)
  clear hI hE a
  rintro r w ⟨rfl, D18, sb19, sp20, hD21, hB22, hP23, hI⟩ a hE
  refine zs hE (p_ifaceNil Tryd.underlying25 rfl rfl rfl) ?_; clear hE a; intro a hE
  refine wnt ?_
  refine c_false hE rfl ?_
  refine wp_skip ?_
  refine blk_normal ?_
  refine then_normal ?_
  refine wp_region_list ?_
  refine zm hE ?_; clear hE a; intro a hE
  refine zs hE (p_arith (z := ((i + 1 : Nat) : Int)) rfl rfl (add_z (by omega) (by omega) (by omega))) ?_; clear hE a; intro a hE
  refine za hE ?_; clear hE a; intro a hE
  refine wnt ?_
  exact ⟨(D18, i + 1, b9, _, _), hE.pick [0, 1, 2, 7, 8, 9, 10, 11], ⟨by show i + 1 ≤ _; omega, ((hDa.trans hD16).trans hD21), hr9, hh9, hB22, hP23, hI⟩, by show n + 2 - (i + 1) < n + 2 - i; omega⟩
 intro hlt; replace hlt := lss_f hlt; clear hE a; intro a hE
 refine wnt ?_
 refine c_false hE rfl ?_
 refine wp_exit ?_
 refine then_exit ?_
 refine then_exit ?_
 refine blk_same ?_
 refine then_normal ?_
 refine wsr ?_
 refine zm hE ?_; clear hE a; intro a hE
 refine zm hE ?_; clear hE a; intro a hE
 have hi9 : i = n + 2 := by omega
 subst hi9
 have hrl := (Runs.len hr).1
 have he0 : (newBt E0).recs.length = 0 := rfl
 have hkl := kvF_len (fun j => [j + 1]) [] (n + 2)
 obtain ⟨_, P9, hlaid, hPH⟩ := laid_holds E0_ok (by omega) hr (by omega) hh (by omega)
 refine l_step rfl (o_call hE rfl rfl rfl rfl ent_37 (Redo_ok hI (hS.mono ((hD2.trans hD9).trans hDa)) hB1 hP1 (Runs.len hr).2 (by omega)) ?_)
 clear hI hE a
 rintro r w ⟨D24, sb25, sp26, hD27, hL28, hB29, hP30, hI⟩ a hE
 obtain ⟨A31, c32, rfl, _⟩ := hL28.slice
 refine zm hE ?_; clear hE a; intro a hE
 refine l_step rfl (o_call hE rfl rfl rfl rfl ent_36 (laid_spec (hI.bring 1) hP30 (hS.mono (((hD2.trans hD9).trans hDa).trans hD27)) hL28 (n := 4) (by omega) (by omega) (by omega)) ?_)
 clear hI hE a
 rintro r w h a hE; rcases h with ⟨D33, s34, P35, hD36, hP37, hI, ⟨m38, hla39, rfl⟩ | ⟨hla39, m38, rfl⟩⟩
 ·skip
  replace hI := hI.put_back 1
  try simp only [nrm, Value.cells] at hI
  rw [hlaid] at hla39
  injection hla39 with hla39
  injection hla39 with hz1 hz2
  subst hz1
  subst hz2
  refine zm hE ?_; clear hE a; intro a hE
  refine zx hE ?_; clear hE a; intro a hE
  refine zx hE ?_; clear hE a; intro a hE
  refine za hE ?_; clear hE a; intro a hE
  refine za hE ?_; clear hE a; intro a hE
  refine wnt ?_
  refine wsr ?_
  refine zm hE ?_; clear hE a; intro a hE
  obtain ⟨px40, n40, hp40, hlv40, hn540, hchk40⟩ := check_ok hPH.2 (by omega)
  obtain ⟨c40, hw40, hch40, hk40, y40, v40, u40, hy140, hy240, hy340, hu040, hu140, hsl40, hsk40⟩ := hchk40 6 (by omega)
  refine l_step rfl (o_call hE rfl rfl rfl rfl ent_45 (Check_spec (f := 6) (hI.bring 1) hP37 (hS.mono ((((hD2.trans hD9).trans hDa).trans hD27).trans hD36)) hp40 (by omega) (fun c hc _ => by rw [hw40] at hc; injection hc with hc; subst hc; exact ⟨_, _, _, hy140, hy240, hy340, hu040, hu140, hsl40, hsk40⟩)) ?_)
  clear hI hE a
  rintro r w h a hE; rcases h with ⟨c8, hr8, hch8, rfl, D41, sp42, hD43, hP44, hI⟩ | ⟨c8, hr8, hch8, rfl, _⟩ | ⟨c8, o8, hr8, rfl, _⟩
  ·skip
   replace hI := hI.put_back 1
   try simp only [nrm, Value.cells] at hI
   rw [hw40] at hr8; injection hr8 with hr8; subst hr8; rw [hk40] at hE
   refine zm hE ?_; clear hE a; intro a hE
   refine zx hE ?_; clear hE a; intro a hE
   refine zx hE ?_; clear hE a; intro a hE
   refine za hE ?_; clear hE a; intro a hE
   refine za hE ?_; clear hE a; intro a hE
   refine wnt ?_
   refine wp_seq ?_
   refine wsr ?_
   refine zm hE ?_; clear hE a; intro a hE
   refine zs hE (p_not rfl) ?_; clear hE a; intro a hE
   refine zm hE ?_; clear hE a; intro a hE
   refine gs hE (p_move rfl) ?_; clear hE a; intro a hE
   refine gs hE (p_ifaceNil Tryd.underlying25 rfl rfl rfl) ?_; clear hE a; intro a hE
   refine zs hE (p_pick (b := false) rfl rfl) ?_; clear hE a; intro a hE
   refine zm hE ?_; clear hE a; intro a hE
   refine gs hE (p_move rfl) ?_; clear hE a; intro a hE
   refine gs hE (p_move rfl) ?_; clear hE a; intro a hE
   refine gs hE (p_cmp rfl rfl (neq_n (by rw [kvF_len]))) ?_; clear hE a; intro a hE
   refine zs hE (p_pick (b := false) rfl rfl) ?_; clear hE a; intro a hE
   refine wnt ?_
   refine c_false hE rfl ?_
   refine wp_skip ?_
   refine then_normal ?_
   refine wsr ?_
   refine za hE ?_; clear hE a; intro a hE
   refine wnt ?_
   refine wsr ?_
   refine zm hE ?_; clear hE a; intro a hE
   refine zm hE ?_; clear hE a; intro a hE
   refine l_step rfl (o_call hE rfl rfl rfl rfl ent_20 (Number_spec (m := ((n + 2 : Nat) : Int)) hI _ (by omega) (by omega)) ?_)
   clear hI hE a
   rintro r w ⟨⟨z45, rfl, hz46, hz47⟩, hI⟩ a hE
   obtain ⟨kk, hk9⟩ : ∃ n : Nat, z45 = n := ⟨z45.toNat, by omega⟩
   subst hk9
   have hkk : kk < n + 2 := by omega
   refine zs hE (p_arith (z := ((kk + 1 : Nat) : Int)) rfl rfl (add_z (by omega) (by omega) (by omega))) ?_; clear hE a; intro a hE
   refine zs hE (p_int (z := ((kk + 1 : Nat) : Int)) Tryd.underlying3 Tryd.underlying5 rfl (by rw [u8_z]; omega)) ?_; clear hE a; intro a hE
   refine l_step rfl (f_lit (vs := [(0, _)]) (l := [_]) hE hI rfl rfl rfl rfl Tryd.underlying22 zs_5 rfl rfl rfl ?_)
   clear hI hE a w; intro a b48 w hE hI
   refine za hE ?_; clear hE a; intro a hE
   refine wnt ?_
   refine wp_seq ?_
   obtain ⟨D49, hD50, hIa, hb51⟩ := lit_one (n := kk + 1) 0 hI (by omega) rfl
   replace hI := hIa
   clear hIa
   try simp only [nrm, Value.cells] at hI
   refine wp_region_list ?_
   refine zm hE ?_; clear hE a; intro a hE
   obtain ⟨n9, u9, fl9, ids9, htr⟩ := hPH.2
   have hsm := tr_small htr (by omega)
   have hA0 : AtPg (newBt P9) ids9 (kvF (fun j => [j + 1]) [] (n + 2)) 0 n9 := ⟨_, _, _, _, _, _, htr.s, fun _ h => h, fun _ h => h⟩
   obtain ⟨x0, hx0v, hx0l, hx0m⟩ := hA0.view
   have hx0f : P9.f 0 = some x0 := by rw [← newBt_view (by omega) (by omega)]; exact hx0v
   refine l_step rfl (o_call hE rfl rfl rfl rfl ent_46 (Get_spec (hI.bring 1) (hP44.mono hD50) 0 (by omega) (by omega)) ?_)
   clear hI hE a
   rintro r w h a hE; rcases h with ⟨p52, hp53, D54, e55, hD56, rfl, he57, ho58, hI, hP59⟩ | ⟨hbad9, _⟩
   ·skip
    replace hI := hI.put_back 1
    try simp only [nrm, Value.cells] at hI
    rw [hx0f] at hp53
    injection hp53 with hp53
    subst hp53
    have hlen_p52 := ho58.len
    obtain ⟨A60, c61, rfl, _⟩ := he57.slice
    refine zm hE ?_; clear hE a; intro a hE
    refine zx hE ?_; clear hE a; intro a hE
    refine zx hE ?_; clear hE a; intro a hE
    refine l_step rfl (f_alloc (cs := #[.int .i64 0, .int .i64 0, .int .i64 0, .int .i64 0, .slice none 0 0]) hE hI rfl rfl rfl zer_83 rfl ?_)
    clear hI hE a w; intro a b62 w hE hI
    refine l_step rfl (f_store (l := [_, _, _, _, _]) (ss' := _ :: _) 0 hE hI rfl rfl rfl rfl rfl sz_83 (by simp [Value.cells, Value.oneCell', pgCells, rcCells, zPg]) rfl rfl rfl ?_)
    clear hI w; intro w hI
    refine za hE ?_; clear hE a; intro a hE
    refine wnt ?_
    refine wp_seq ?_
    refine wsr ?_
    refine za hE ?_; clear hE a; intro a hE
    refine wnt ?_
    refine wp_block ?_
    replace hI := hI.erase 1
    refine c_loop (X := Sto × Nat × Int × Pg × Value × Seg) (fun y => [(0, _), (1, _), (2, _), (7, _), (8, _), (9, _), (16, _), (17, _), (15, .int .i64 y.2.2.1), (19, .int .i64 (y.2.1 : Nat))]) (fun y w => Le D54 y.1 ∧ (∃ m, AtPg (newBt P9) ids9 (kvF (fun j => [j + 1]) [] (n + 2)) y.2.2.1 m ∧ y.2.1 + m ≤ 4) ∧ RF (newBt P9) 0 y.2.2.1 ∧ P9.f y.2.2.1 = some y.2.2.2.1 ∧ (newBt P9).view y.2.2.1 = some y.2.2.2.1 ∧ EnD y.1 y.2.2.2.2.1 y.2.2.2.1.ents ∧ POk y.2.2.2.1 ∧ PoolS y.1 (.pointer (some ⟨q8, 0, none⟩)) P9 y.2.2.2.2.2 ∧ Inv w0 y.1 ([(b62, .cells (pgCells y.2.2.2.1 y.2.2.2.2.1).toArray 83 (0, 0))] :: y.2.2.2.2.2 :: ss) w) (fun y => 6 - y.2.1) (D54, 0, 0, x0, _, _) (hE.pick [0, 1, 2, 7, 8, 9, 16, 17, 15, 19]) ⟨Le.refl _, ⟨n9, hA0, by show 0 + n9 ≤ 4; omega⟩, .here, hx0f, hx0v, he57, ho58, hP59, hI⟩ ?_
    clear hE hI a w
    rintro ⟨Db, stp, id, x, e, sp⟩ a w hE ⟨hDb, ⟨m, hA, hstp⟩, hrf, hxf, hxv, hE2, hok2, hP2, hI⟩
    try dsimp only at hE
    try dsimp only at hDb
    try dsimp only at hA
    try dsimp only at hstp
    try dsimp only at hrf
    try dsimp only at hxf
    try dsimp only at hxv
    try dsimp only at hE2
    try dsimp only at hok2
    try dsimp only at hP2
    try dsimp only at hI
    obtain ⟨A63, c64, rfl, _⟩ := hE2.slice
    have hlen_x := hok2.len
    have hlv0 := hok2.v0
    refine wp_seq ?_
    refine wsr ?_
    refine zs hE (p_fieldAddr (m := 2) rfl fo_83_2 rfl) ?_; clear hE a; intro a hE
    refine zl hE (f_load rfl scal_3 (hI.seg 0 rfl) rfl) ?_; clear hE a; intro a hE
    refine l_step rfl (o_cmp hE rfl rfl rfl rfl rfl rfl ?_ ?_)
    ·intro hlv; replace hlv := gtr_t hlv; clear hE a; intro a hE
     refine wnt ?_
     refine c_true hE rfl ?_
     refine wp_skip ?_
     refine then_normal ?_
     refine wp_seq ?_
     refine wp_block ?_
     refine wp_seq ?_
     refine wp_seq ?_
     obtain ⟨m1, rfl, hlen0, hch⟩ := hA.child hxv (by omega)
     refine wp_region_list ?_
     refine zm hE ?_; clear hE a; intro a hE
     refine zs hE (p_cmp rfl rfl (gtr_n (by omega))) ?_; clear hE a; intro a hE
     refine zm hE ?_; clear hE a; intro a hE
     refine gs hE (p_fieldAddr (m := 4) rfl fo_83_4 rfl) ?_; clear hE a; intro a hE
     refine gl hE (f_load rfl scal_65 (hI.seg 0 rfl) rfl) ?_; clear hE a; intro a hE
     refine gs hE (p_len rfl rfl Tryd.underlying65) ?_; clear hE a; intro a hE
     refine gs hE (p_cmp rfl rfl (eql_n (by omega))) ?_; clear hE a; intro a hE
     refine zs hE (p_pick (b := false) rfl rfl) ?_; clear hE a; intro a hE
     refine wnt ?_
     refine c_false hE rfl ?_
     refine wp_skip ?_
     refine then_normal ?_
     refine wsr ?_
     refine za hE ?_; clear hE a; intro a hE
     refine wnt ?_
     refine wp_seq ?_
     refine wp_block ?_
     refine c_loop (X := Nat) (fun y => [(0, _), (1, _), (2, _), (7, _), (8, _), (9, _), (16, _), (17, _), (15, _), (19, _), (20, .int .i64 (y : Nat))]) (fun y w => y < x.ents.length ∧ Inv w0 Db ([(b62, .cells #[.int .i64 x.id, .int .i64 x.lsn, .int .i64 x.level, .int .i64 x.next, .slice A63 (x.ents).length c64] 83 (0, 0))] :: sp :: ss) w) (fun y => x.ents.length - y) 0 (hE.pick [0, 1, 2, 7, 8, 9, 16, 17, 15, 19, 20]) ⟨hlen0, hI⟩ ?_
     clear hE hI a w
     rintro k a w hE ⟨hk, hI⟩
     try dsimp only at hE
     try dsimp only at hk
     try dsimp only at hI
     refine wp_seq ?_
     refine wsr ?_
     refine zm hE ?_; clear hE a; intro a hE
     refine zs hE (p_arith (z := ((k + 1 : Nat) : Int)) rfl rfl (add_z (by omega) (by omega) (by omega))) ?_; clear hE a; intro a hE
     refine zs hE (p_fieldAddr (m := 4) rfl fo_83_4 rfl) ?_; clear hE a; intro a hE
     refine zl hE (f_load rfl scal_65 (hI.seg 0 rfl) rfl) ?_; clear hE a; intro a hE
     refine zs hE (p_len rfl rfl Tryd.underlying65) ?_; clear hE a; intro a hE
     refine l_step rfl (o_cmp hE rfl rfl rfl rfl rfl rfl ?_ ?_)
     ·intro hk1; replace hk1 := lss_t hk1; clear hE a; intro a hE
      refine zm hE ?_; clear hE a; intro a hE
      refine gs hE (p_move rfl) ?_; clear hE a; intro a hE
      refine gs hE (p_fieldAddr (m := 4) rfl fo_83_4 rfl) ?_; clear hE a; intro a hE
      refine gl hE (f_load rfl scal_65 (hI.seg 0 rfl) rfl) ?_; clear hE a; intro a hE
      refine gs hE (p_move rfl) ?_; clear hE a; intro a hE
      refine gs hE (p_arith (z := ((k + 1 : Nat) : Int)) rfl rfl (add_z (by omega) (by omega) (by omega))) ?_; clear hE a; intro a hE
      obtain ⟨x_65, hx_65⟩ : ∃ z9, (x.ents)[(k + 1)]? = some z9 := ⟨_, List.getElem?_eq_getElem (by omega)⟩
      obtain ⟨b_65, o_65, cs_65, T_65, fr_65, rfl, hb_65, hat_65⟩ := hE2.at_ (by intro h0; rw [h0] at hx_65; simp at hx_65)
      obtain ⟨vs_65, hl_65, ⟨k_65, v_65, rfl, hk_65, hv_65, hok_65⟩, hex_65, hsz_65, hce_65⟩ := hat_65.extract hx_65 (by omega)
      obtain ⟨A66, c67, rfl, _⟩ := hk_65.slice
      obtain ⟨A68, c69, rfl, _⟩ := hv_65.slice
      refine gs hE (p_indexAddr (m := o_65 + (k + 1) * 2) rfl rfl Tryd.underlying65 sz_69 (by omega) (by omega) (by simp)) ?_; clear hE a; intro a hE
      refine gs hE (p_fieldAddr rfl fo_69_0 rfl) ?_; clear hE a; intro a hE
      refine gl hE (r_load rfl scal_22 (hI.data _ _ (hb_65)) (hce_65 0 _ rfl)) ?_; clear hE a; intro a hE
      refine l_go hE rfl (o_call hE rfl rfl rfl rfl ent_17 (Ahead_spec hI (hb51.mono (hD56.trans hDb)) hk_65 (by simp)) ?_)
      clear hI hE a
      rintro r w h a hE; rcases h with ⟨rfl, hah70, hI⟩ | ⟨rfl, hah70, hI⟩
      ·skip
       refine gs hE (p_not rfl) ?_; clear hE a; intro a hE
       refine zs hE (p_pick (b := true) rfl rfl) ?_; clear hE a; intro a hE
       refine wnt ?_
       refine c_false hE rfl ?_
       refine wp_exit ?_
       refine then_exit ?_
       refine then_exit ?_
       refine blk_same ?_
       refine then_normal ?_
       refine wsr ?_
       refine zs hE (p_fieldAddr (m := 4) rfl fo_83_4 rfl) ?_; clear hE a; intro a hE
       refine zl hE (f_load rfl scal_65 (hI.seg 0 rfl) rfl) ?_; clear hE a; intro a hE
       refine zm hE ?_; clear hE a; intro a hE
       obtain ⟨x_71, hx_71⟩ : ∃ z9, (x.ents)[k]? = some z9 := ⟨_, List.getElem?_eq_getElem (by omega)⟩
       obtain ⟨vs_71, hl_71, ⟨k_71, v_71, rfl, hk_71, hv_71, hok_71⟩, hex_71, hsz_71, hce_71⟩ := hat_65.extract hx_71 (by omega)
       obtain ⟨A72, c73, rfl, _⟩ := hk_71.slice
       obtain ⟨A74, c75, rfl, _⟩ := hv_71.slice
       refine zs hE (p_indexAddr (m := o_65 + k * 2) rfl rfl Tryd.underlying65 sz_69 (by omega) (by omega) (by simp)) ?_; clear hE a; intro a hE
       refine zs hE (p_fieldAddr rfl fo_69_1 rfl) ?_; clear hE a; intro a hE
       refine zl hE (r_load rfl scal_22 (hI.data _ _ (hb_65)) (hce_71 1 _ rfl)) ?_; clear hE a; intro a hE
       refine za hE ?_; clear hE a; intro a hE
       refine wnt ?_
       refine wp_seq ?_
       refine wp_seq ?_
       have hgk : x.ents.getD k ([], []) = x_71 := by simp [List.getD, hx_71]
       obtain ⟨hA2, htwo, hat2⟩ := hch k hk
       rw [hgk] at hA2 htwo hat2
       have hrf2 := RF.down hrf (page_of_view hxv) (by omega) hk hat2
       obtain ⟨x2, hx2v, hx2l, hx2m⟩ := hA2.view
       have hrg2 := htr.g.rg _ hx2m
       have hx2f : P9.f (numberP x_71.2) = some x2 := by rw [← newBt_view (by omega) (by omega)]; exact hx2v
       refine wp_region_list ?_
       refine zm hE ?_; clear hE a; intro a hE
       refine zs hE (p_len rfl rfl Tryd.underlying22) ?_; clear hE a; intro a hE
       refine zs hE (p_cmp rfl rfl (lss_n (by omega))) ?_; clear hE a; intro a hE
       refine wnt ?_
       refine c_false hE rfl ?_
       refine wp_skip ?_
       refine then_normal ?_
       refine wp_seq ?_
       have hne : x_71.2 ≠ [] := by intro h; rw [h] at htwo; simp at htwo
       have l0 : x_71.2.getD 0 0 < 256 := by rw [List.getD_eq_getElem?_getD, List.getElem?_eq_getElem (by omega)]; exact hv_71.lt _ (List.getElem_mem _)
       have l1 : x_71.2.getD 1 0 < 256 := by rw [List.getD_eq_getElem?_getD, List.getElem?_eq_getElem (by omega)]; exact hv_71.lt _ (List.getElem_mem _)
       refine d_start [] [] (by kernel_rfl) hI rfl rfl ?_
       clear hI w; intro w hI
       refine dp 0 hE rfl (p_move rfl) (fun _ => hI) (listed' := #[true, false, false, false, false, false, false, false, false, false, false]) ?_; clear hE a; intro a hE
       obtain ⟨b_76, o_76, cs_76, T_76, fr_76, rfl, hb_76, hc_76⟩ := hv_71.at_ (hne)
       refine dp 1 hE rfl (p_indexAddr rfl rfl Tryd.underlying22 sz_5 (by omega) (by omega) rfl) (fun _ => hI) ?_; clear hE a; intro a hE
       refine dl 2 hE rfl (fun w hS => r_load rfl scal_5 (Inv.data hS _ _ (hb_76)) (RB.cell hc_76 (by omega) (by omega))) (hI) ?_; clear hE a; intro a hE
       refine dp 3 hE rfl (p_int (z := ((x_71.2.getD 0 0 : Nat) : Int)) Tryd.underlying5 Tryd.underlying3 rfl (by show IntKind.i64.wrap ((x_71.2.getD 0 0 : Nat) : Int) = _; rw [IntKind.wrap_i64]; omega)) (fun _ => hI) ?_; clear hE a; intro a hE
       refine dp 4 hE rfl (p_shl (z := ((x_71.2.getD 0 0 * 256 : Nat) : Int)) rfl rfl (by omega) (by show IntKind.i64.wrap (((x_71.2.getD 0 0 : Nat) : Int) * 2 ^ min (8 : Int).toNat 64) = _; rw [show min (8 : Int).toNat 64 = 8 from rfl, IntKind.wrap_i64]; omega)) (fun _ => hI) ?_; clear hE a; intro a hE
       refine dp 5 hE rfl (p_move rfl) (fun _ => hI) ?_; clear hE a; intro a hE
       refine dp 6 hE rfl (p_indexAddr rfl rfl Tryd.underlying22 sz_5 (by omega) (by omega) rfl) (fun _ => hI) ?_; clear hE a; intro a hE
       refine dl 7 hE rfl (fun w hS => r_load rfl scal_5 (Inv.data hS _ _ (hb_76)) (RB.cell hc_76 (by omega) (by omega))) (hI) ?_; clear hE a; intro a hE
       refine dp 8 hE rfl (p_int (z := ((x_71.2.getD 1 0 : Nat) : Int)) Tryd.underlying5 Tryd.underlying3 rfl (by show IntKind.i64.wrap ((x_71.2.getD 1 0 : Nat) : Int) = _; rw [IntKind.wrap_i64]; omega)) (fun _ => hI) ?_; clear hE a; intro a hE
       refine dp 9 hE rfl (p_arith (z := (numberP x_71.2)) rfl rfl (or_bytes l0 l1)) (fun _ => hI) ?_; clear hE a; intro a hE
       refine dp 10 hE rfl (p_assign rfl) (fun _ => hI) ?_; clear hE a; intro a hE
       refine d_done (by kernel_rfl) ?_
       refine then_normal ?_
       refine wp_region_list ?_
       refine zm hE ?_; clear hE a; intro a hE
       refine zm hE ?_; clear hE a; intro a hE
       refine l_step rfl (o_call hE rfl rfl rfl rfl ent_46 (Get_spec (hI.bring 1) hP2 (numberP x_71.2) (by omega) (by omega)) ?_)
       clear hI hE a
       rintro r w h a hE; rcases h with ⟨p77, hp78, D79, e80, hD81, rfl, he82, ho83, hI, hP84⟩ | ⟨hbad9, _⟩
       ·skip
        replace hI := hI.put_back 1
        try simp only [nrm, Value.cells] at hI
        rw [hx2f] at hp78
        injection hp78 with hp78
        subst hp78
        have hlen_p77 := ho83.len
        obtain ⟨A85, c86, rfl, _⟩ := he82.slice
        refine zm hE ?_; clear hE a; intro a hE
        refine zx hE ?_; clear hE a; intro a hE
        refine zx hE ?_; clear hE a; intro a hE
        refine l_step rfl (f_store (l := [_, _, _, _, _]) (ss' := _ :: _) 0 hE hI rfl rfl rfl rfl rfl sz_83 (by simp [Value.cells, Value.oneCell', pgCells, rcCells, zPg]) rfl rfl rfl ?_)
        clear hI w; intro w hI
        refine wpList_nil ?_
        refine blk_normal ?_
        refine then_normal ?_
        refine wp_region_list ?_
        refine zm hE ?_; clear hE a; intro a hE
        refine zs hE (p_arith (z := ((stp + 1 : Nat) : Int)) rfl rfl (add_z (by omega) (by omega) (by omega))) ?_; clear hE a; intro a hE
        refine za hE ?_; clear hE a; intro a hE
        refine wnt ?_
        exact ⟨(D79, stp + 1, _, x2, _, _), hE.pick [0, 1, 2, 7, 8, 9, 16, 17, 15, 19], ⟨(hDb.trans hD81), ⟨_, hA2, by show stp + 1 + _ ≤ 4; omega⟩, hrf2, hx2f, hx2v, he82, ho83, hP84, hI⟩, by show 6 - (stp + 1) < 6 - stp; omega⟩
       exfalso
       rw [hx2f] at hbad9; cases hbad9
      refine gs hE (p_not rfl) ?_; clear hE a; intro a hE
      refine zs hE (p_pick (b := true) rfl rfl) ?_; clear hE a; intro a hE
      refine wnt ?_
      refine c_true hE rfl ?_
      refine wp_skip ?_
      refine then_normal ?_
      refine wp_block ?_
      refine wp_region_list ?_
      refine zm hE ?_; clear hE a; intro a hE
      refine zs hE (p_arith (z := ((k + 1 : Nat) : Int)) rfl rfl (add_z (by omega) (by omega) (by omega))) ?_; clear hE a; intro a hE
      refine za hE ?_; clear hE a; intro a hE
      refine wpList_nil ?_
      refine blk_normal ?_
      refine then_normal ?_
      exact ⟨k + 1, hE.pick [0, 1, 2, 7, 8, 9, 16, 17, 15, 19, 20], ⟨by show k + 1 < _; omega, hI⟩, by show x.ents.length - (k + 1) < x.ents.length - k; omega⟩
     intro hk1; replace hk1 := lss_f hk1; clear hE a; intro a hE
     refine zm hE ?_; clear hE a; intro a hE
     refine zk hE ?_; clear hE a; intro a hE
     refine zk hE ?_; clear hE a; intro a hE
     refine zk hE ?_; clear hE a; intro a hE
     refine zk hE ?_; clear hE a; intro a hE
     refine zk hE ?_; clear hE a; intro a hE
     refine zk hE ?_; clear hE a; intro a hE
     refine zk hE ?_; clear hE a; intro a hE
     refine zk hE ?_; clear hE a; intro a hE
     refine zk hE ?_; clear hE a; intro a hE
     refine zk hE ?_; clear hE a; intro a hE
     refine zs hE (p_pick (b := false) rfl rfl) ?_; clear hE a; intro a hE
     refine wnt ?_
     refine c_false hE rfl ?_
     refine wp_exit ?_
     refine then_exit ?_
     refine then_exit ?_
     refine blk_same ?_
     refine then_normal ?_
     refine wsr ?_
     refine zs hE (p_fieldAddr (m := 4) rfl fo_83_4 rfl) ?_; clear hE a; intro a hE
     refine zl hE (f_load rfl scal_65 (hI.seg 0 rfl) rfl) ?_; clear hE a; intro a hE
     refine zm hE ?_; clear hE a; intro a hE
     obtain ⟨x_87, hx_87⟩ : ∃ z9, (x.ents)[k]? = some z9 := ⟨_, List.getElem?_eq_getElem (by omega)⟩
     obtain ⟨b_87, o_87, cs_87, T_87, fr_87, rfl, hb_87, hat_87⟩ := hE2.at_ (by intro h0; rw [h0] at hx_87; simp at hx_87)
     obtain ⟨vs_87, hl_87, ⟨k_87, v_87, rfl, hk_87, hv_87, hok_87⟩, hex_87, hsz_87, hce_87⟩ := hat_87.extract hx_87 (by omega)
     obtain ⟨A88, c89, rfl, _⟩ := hk_87.slice
     obtain ⟨A90, c91, rfl, _⟩ := hv_87.slice
     refine zs hE (p_indexAddr (m := o_87 + k * 2) rfl rfl Tryd.underlying65 sz_69 (by omega) (by omega) (by simp)) ?_; clear hE a; intro a hE
     refine zs hE (p_fieldAddr rfl fo_69_1 rfl) ?_; clear hE a; intro a hE
     refine zl hE (r_load rfl scal_22 (hI.data _ _ (hb_87)) (hce_87 1 _ rfl)) ?_; clear hE a; intro a hE
     refine za hE ?_; clear hE a; intro a hE
     refine wnt ?_
     refine wp_seq ?_
     refine wp_seq ?_
     have hgk : x.ents.getD k ([], []) = x_87 := by simp [List.getD, hx_87]
     obtain ⟨hA2, htwo, hat2⟩ := hch k hk
     rw [hgk] at hA2 htwo hat2
     have hrf2 := RF.down hrf (page_of_view hxv) (by omega) hk hat2
     obtain ⟨x2, hx2v, hx2l, hx2m⟩ := hA2.view
     have hrg2 := htr.g.rg _ hx2m
     have hx2f : P9.f (numberP x_87.2) = some x2 := by rw [← newBt_view (by omega) (by omega)]; exact hx2v
     refine wp_region_list ?_
     refine zm hE ?_; clear hE a; intro a hE
     refine zs hE (p_len rfl rfl Tryd.underlying22) ?_; clear hE a; intro a hE
     refine zs hE (p_cmp rfl rfl (lss_n (by omega))) ?_; clear hE a; intro a hE
     refine wnt ?_
     refine c_false hE rfl ?_
     refine wp_skip ?_
     refine then_normal ?_
     refine wp_seq ?_
     have hne : x_87.2 ≠ [] := by intro h; rw [h] at htwo; simp at htwo
     have l0 : x_87.2.getD 0 0 < 256 := by rw [List.getD_eq_getElem?_getD, List.getElem?_eq_getElem (by omega)]; exact hv_87.lt _ (List.getElem_mem _)
     have l1 : x_87.2.getD 1 0 < 256 := by rw [List.getD_eq_getElem?_getD, List.getElem?_eq_getElem (by omega)]; exact hv_87.lt _ (List.getElem_mem _)
     refine d_start [] [] (by kernel_rfl) hI rfl rfl ?_
     clear hI w; intro w hI
     refine dp 0 hE rfl (p_move rfl) (fun _ => hI) (listed' := #[true, false, false, false, false, false, false, false, false, false, false]) ?_; clear hE a; intro a hE
     obtain ⟨b_92, o_92, cs_92, T_92, fr_92, rfl, hb_92, hc_92⟩ := hv_87.at_ (hne)
     refine dp 1 hE rfl (p_indexAddr rfl rfl Tryd.underlying22 sz_5 (by omega) (by omega) rfl) (fun _ => hI) ?_; clear hE a; intro a hE
     refine dl 2 hE rfl (fun w hS => r_load rfl scal_5 (Inv.data hS _ _ (hb_92)) (RB.cell hc_92 (by omega) (by omega))) (hI) ?_; clear hE a; intro a hE
     refine dp 3 hE rfl (p_int (z := ((x_87.2.getD 0 0 : Nat) : Int)) Tryd.underlying5 Tryd.underlying3 rfl (by show IntKind.i64.wrap ((x_87.2.getD 0 0 : Nat) : Int) = _; rw [IntKind.wrap_i64]; omega)) (fun _ => hI) ?_; clear hE a; intro a hE
     refine dp 4 hE rfl (p_shl (z := ((x_87.2.getD 0 0 * 256 : Nat) : Int)) rfl rfl (by omega) (by show IntKind.i64.wrap (((x_87.2.getD 0 0 : Nat) : Int) * 2 ^ min (8 : Int).toNat 64) = _; rw [show min (8 : Int).toNat 64 = 8 from rfl, IntKind.wrap_i64]; omega)) (fun _ => hI) ?_; clear hE a; intro a hE
     refine dp 5 hE rfl (p_move rfl) (fun _ => hI) ?_; clear hE a; intro a hE
     refine dp 6 hE rfl (p_indexAddr rfl rfl Tryd.underlying22 sz_5 (by omega) (by omega) rfl) (fun _ => hI) ?_; clear hE a; intro a hE
     refine dl 7 hE rfl (fun w hS => r_load rfl scal_5 (Inv.data hS _ _ (hb_92)) (RB.cell hc_92 (by omega) (by omega))) (hI) ?_; clear hE a; intro a hE
     refine dp 8 hE rfl (p_int (z := ((x_87.2.getD 1 0 : Nat) : Int)) Tryd.underlying5 Tryd.underlying3 rfl (by show IntKind.i64.wrap ((x_87.2.getD 1 0 : Nat) : Int) = _; rw [IntKind.wrap_i64]; omega)) (fun _ => hI) ?_; clear hE a; intro a hE
     refine dp 9 hE rfl (p_arith (z := (numberP x_87.2)) rfl rfl (or_bytes l0 l1)) (fun _ => hI) ?_; clear hE a; intro a hE
     refine dp 10 hE rfl (p_assign rfl) (fun _ => hI) ?_; clear hE a; intro a hE
     refine d_done (by kernel_rfl) ?_
     refine then_normal ?_
     refine wp_region_list ?_
     refine zm hE ?_; clear hE a; intro a hE
     refine zm hE ?_; clear hE a; intro a hE
     refine l_step rfl (o_call hE rfl rfl rfl rfl ent_46 (Get_spec (hI.bring 1) hP2 (numberP x_87.2) (by omega) (by omega)) ?_)
     clear hI hE a
     rintro r w h a hE; rcases h with ⟨p93, hp94, D95, e96, hD97, rfl, he98, ho99, hI, hP100⟩ | ⟨hbad9, _⟩
     ·skip
      replace hI := hI.put_back 1
      try simp only [nrm, Value.cells] at hI
      rw [hx2f] at hp94
      injection hp94 with hp94
      subst hp94
      have hlen_p93 := ho99.len
      obtain ⟨A101, c102, rfl, _⟩ := he98.slice
      refine zm hE ?_; clear hE a; intro a hE
      refine zx hE ?_; clear hE a; intro a hE
      refine zx hE ?_; clear hE a; intro a hE
      refine l_step rfl (f_store (l := [_, _, _, _, _]) (ss' := _ :: _) 0 hE hI rfl rfl rfl rfl rfl sz_83 (by simp [Value.cells, Value.oneCell', pgCells, rcCells, zPg]) rfl rfl rfl ?_)
      clear hI w; intro w hI
      refine wpList_nil ?_
      refine blk_normal ?_
      refine then_normal ?_
      refine wp_region_list ?_
      refine zm hE ?_; clear hE a; intro a hE
      refine zs hE (p_arith (z := ((stp + 1 : Nat) : Int)) rfl rfl (add_z (by omega) (by omega) (by omega))) ?_; clear hE a; intro a hE
      refine za hE ?_; clear hE a; intro a hE
      refine wnt ?_
      exact ⟨(D95, stp + 1, _, x2, _, _), hE.pick [0, 1, 2, 7, 8, 9, 16, 17, 15, 19], ⟨(hDb.trans hD97), ⟨_, hA2, by show stp + 1 + _ ≤ 4; omega⟩, hrf2, hx2f, hx2v, he98, ho99, hP100, hI⟩, by show 6 - (stp + 1) < 6 - stp; omega⟩
     exfalso
     rw [hx2f] at hbad9; cases hbad9
    intro hlv; replace hlv := gtr_f hlv; clear hE a; intro a hE
    refine wnt ?_
    refine c_false hE rfl ?_
    refine wp_exit ?_
    refine then_exit ?_
    refine then_exit ?_
    refine blk_same ?_
    refine then_normal ?_
    refine wp_seq ?_
    obtain ⟨_, _, _, hmem9⟩ := hA.view
    have hrgi := htr.g.rg _ hmem9
    refine wp_region_list ?_
    refine zm hE ?_; clear hE a; intro a hE
    refine zm hE ?_; clear hE a; intro a hE
    refine l_step rfl (f_lit (vs := [(0, _)]) (l := [_]) hE hI rfl rfl rfl rfl Tryd.underlying22 zs_5 rfl rfl rfl ?_)
    clear hI hE a w; intro a b103 w hE hI
    refine zs hE (f_build (vs := [(0, _), (4, _), (5, _), (6, _), (7, _)]) (l := [_, _, _, _, _, _, _, _, _, _]) rfl built_88 rfl) ?_; clear hE a; intro a hE
    refine l_step rfl (f_alloc (cs := #[.int .i64 0, .int .i64 0, .int .i64 0, .int .i64 0, .int .i64 0, .int .i64 0, .int .i64 0, .slice none 0 0, .slice none 0 0, .bool false]) hE hI rfl rfl rfl zer_88 rfl ?_)
    clear hI hE a w; intro a b104 w hE hI
    refine l_step rfl (f_store (l := [_, _, _, _, _, _, _, _, _, _]) (ss' := _ :: _) 0 hE hI rfl rfl rfl rfl rfl sz_88 (by simp [Value.cells, Value.oneCell', pgCells, rcCells, zPg]) rfl rfl rfl ?_)
    clear hI w; intro w hI
    refine wnt ?_
    refine wp_seq ?_
    refine wsr ?_
    refine zm hE ?_; clear hE a; intro a hE
    refine l_step rfl (o_call hE rfl rfl rfl rfl ent_20 (Number_spec (m := 2) hI _ (by omega) (by omega)) ?_)
    clear hI hE a
    rintro r w ⟨⟨z105, rfl, hz106, hz107⟩, hI⟩ a hE
    refine l_step rfl (o_cmp hE rfl rfl rfl rfl rfl rfl ?_ ?_)
    ·intro hwt; replace hwt := eql_t hwt; clear hE a; intro a hE
     refine wnt ?_
     refine c_true hE rfl ?_
     refine wp_region_list ?_
     refine zm hE ?_; clear hE a; intro a hE
     refine zm hE ?_; clear hE a; intro a hE
     refine l_step rfl (f_lit (vs := [(0, _)]) (l := [_]) hE hI rfl rfl rfl rfl Tryd.underlying22 zs_5 rfl rfl rfl ?_)
     clear hI hE a w; intro a b108 w hE hI
     refine zs hE (f_build (vs := [(0, _), (4, _), (5, _), (6, _), (7, _)]) (l := [_, _, _, _, _, _, _, _, _, _]) rfl built_88 rfl) ?_; clear hE a; intro a hE
     refine l_step rfl (f_store (l := [_, _, _, _, _, _, _, _, _, _]) (ss' := _ :: _ :: _) 1 hE hI rfl rfl rfl rfl rfl sz_88 (by simp [Value.cells, Value.oneCell', pgCells, rcCells, zPg]) rfl rfl rfl ?_)
     clear hI w; intro w hI
     refine wnt ?_
     refine wp_seq ?_
     refine wsr ?_
     refine zs hE (p_fieldAddr (m := 4) rfl fo_83_4 rfl) ?_; clear hE a; intro a hE
     refine zl hE (f_load rfl scal_65 (hI.seg 3 rfl) rfl) ?_; clear hE a; intro a hE
     refine zs hE (p_len rfl rfl Tryd.underlying65) ?_; clear hE a; intro a hE
     refine l_step rfl (o_cmp hE rfl rfl rfl rfl rfl rfl ?_ ?_)
     ·intro h8; replace h8 := geq_t h8; clear hE a; intro a hE
      refine wnt ?_
      refine c_true hE rfl ?_
      refine wp_region_list ?_
      refine zm hE ?_; clear hE a; intro a hE
      refine zm hE ?_; clear hE a; intro a hE
      refine zm hE ?_; clear hE a; intro a hE
      refine zs hE (f_build (vs := [(0, _), (4, _), (5, _), (6, _)]) (l := [_, _, _, _, _, _, _, _, _, _]) rfl built_88 rfl) ?_; clear hE a; intro a hE
      refine l_step rfl (f_store (l := [_, _, _, _, _, _, _, _, _, _]) (ss' := _ :: _ :: _) 1 hE hI rfl rfl rfl rfl rfl sz_88 (by simp [Value.cells, Value.oneCell', pgCells, rcCells, zPg]) rfl rfl rfl ?_)
      clear hI w; intro w hI
      refine wnt ?_
      refine wp_seq ?_
      refine wsr ?_
      refine zm hE ?_; clear hE a; intro a hE
      refine zl hE (f_loadA (vs := [_, _, _, _, _, _, _, _, _, _]) rfl agg_88 (hI.seg 1 rfl) rfl rfl) ?_; clear hE a; intro a hE
      obtain ⟨rc9, hrc9⟩ : ∃ r, r = ({ lsn := 4 + (b.recs.length : Nat), page := id, kind := 5, slot := id, key := [], val := [] } : Rc) := ⟨_, rfl⟩
      have hpg9 : rc9.page = id := by rw [hrc9]
      have hap9 := papply_at (P := P9) (r := rc9) (x := x) (by rw [hpg9]; exact hxf)
      refine l_step rfl (o_call hE rfl rfl rfl rfl ent_47 (PApply_spec (rc := rc9) (hI.bring 4) hP2 (hS.mono ((((((((hD2.trans hD9).trans hDa).trans hD27).trans hD36).trans hD43).trans hD50).trans hD56).trans hDb)) (⟨_, _, by rw [hrc9]; rfl, (by rw [hrc9]; exact (RB.nil _)), (by rw [hrc9]; exact RB.nil _), ⟨by rw [hrc9]; simp only []; omega, by rw [hrc9]; simp only []; omega, by rw [hrc9]; simp only []; omega, by rw [hrc9]; simp only []; omega, by rw [hrc9]; simp, by rw [hrc9]; simp⟩⟩ : RcV Db _ rc9)) ?_)
      clear hI hE a
      rintro r w h a hE; rcases h with ⟨P109, hap110, rfl, D111, s112, hD113, hP1114, hI⟩ | ⟨hap110, rfl, hI, hP1114⟩
      ·skip
       replace hI := hI.put_back 4
       try simp only [nrm, Value.cells] at hI
       have hP8 := hap110
       refine zs hE (p_not rfl) ?_; clear hE a; intro a hE
       refine wnt ?_
       refine c_false hE rfl ?_
       refine wp_skip ?_
       refine then_normal ?_
       refine wsr ?_
       refine zm hE ?_; clear hE a; intro a hE
       obtain ⟨hxne, hxmem⟩ := AtPg.leaf htr (by intro h; rw [h] at hkl; simp at hkl) hA hxv (by omega)
       have hbad : BadPg (effP x rc9) := eff_link (by rw [hrc9]) (by rw [hrc9, (hPH.1 _ _ hxf).2.1]) (by rw [(hPH.1 _ _ hxf).2.1]; omega) (by rw [(hPH.1 _ _ hxf).2.1]; omega)
       obtain ⟨px9, hpx9, hpl9⟩ : ∃ px, (newBt P109).page 0 = .ok px ∧ px.level < 6 := by
        have hq := hap9.symm.trans hP8
        injection hq with hq
        rw [← hq]
        by_cases h0 : (0 : Int) = rc9.page
        ·refine ⟨applyP x rc9, by simp only [Bt.page, newBt, if_pos h0]; rfl, ?_⟩
         have h1 : (applyP x rc9).level = x.level := by
          unfold applyP effP
          rw [hrc9]
          repeat' split
          all_goals first | rfl | (rename_i hq; simp at hq)
         omega
        refine ⟨x0, by simp only [Bt.page, newBt, if_neg h0, hx0f]; rfl, by omega⟩
       obtain ⟨hbw1, hbw2⟩ := check_laid hPH.1 htr (by omega) hA hrf hxf (by omega) hpg9 (by rw [hrc9]) (by rw [hrc9]; simp) hP8 hbad hpx9 (f := 6) (by omega)
       refine l_step rfl (o_call hE rfl rfl rfl rfl ent_45 (Check_spec (f := 6) (hI.bring 4) hP1114 (hS.mono (((((((((hD2.trans hD9).trans hDa).trans hD27).trans hD36).trans hD43).trans hD50).trans hD56).trans hDb).trans hD113)) hpx9 (by omega) (fun c hc hch => by rw [hbw1 c hc] at hch; cases hch)) ?_)
       clear hI hE a
       rintro r w h a hE; rcases h with ⟨c8, hr8, hch8, rfl, _⟩ | ⟨c8, hr8, hch8, rfl, D115, sp116, hD117, hP118, hI⟩ | ⟨c8, o8, hr8, rfl, D115, sp116, hD117, hP118, hI⟩
       ·skip
        exfalso
        rw [hbw1 c8 hr8] at hch8; cases hch8
       ·skip
        replace hI := hI.put_back 4
        try simp only [nrm, Value.cells] at hI
        refine zm hE ?_; clear hE a; intro a hE
        refine zx hE ?_; clear hE a; intro a hE
        refine zx hE ?_; clear hE a; intro a hE
        refine za hE ?_; clear hE a; intro a hE
        refine za hE ?_; clear hE a; intro a hE
        refine wnt ?_
        refine wsr ?_
        refine zm hE ?_; clear hE a; intro a hE
        refine zm hE ?_; clear hE a; intro a hE
        refine gs hE (p_move rfl) ?_; clear hE a; intro a hE
        refine l_go hE rfl (o_call hE rfl rfl rfl rfl ent_22 (Is_spec (f := .bare 103) hI (hS17.mono ((((((((((hD2.trans hD9).trans hDa).trans hD27).trans hD36).trans hD43).trans hD50).trans hD56).trans hDb).trans hD113).trans hD117)) rfl ⟨by omega, by omega⟩ 103) ?_)
        clear hI hE a
        rintro r w ⟨rfl, hI⟩ a hE
        refine zs hE (p_pick (b := true) rfl rfl) ?_; clear hE a; intro a hE
        refine za hE ?_; clear hE a; intro a hE
        refine wnt ?_
        refine wp_ret ?_
        refine ret1 rfl hE rfl ?_
        exact ⟨rfl, _, ((((((((((hD2.trans hD9).trans hDa).trans hD27).trans hD36).trans hD43).trans hD50).trans hD56).trans hDb).trans hD113).trans hD117), hI.drop.drop.drop.drop.drop⟩
       replace hI := hI.put_back 4
       try simp only [nrm, Value.cells] at hI
       have he103 := hbw2 _ _ hr8
       subst he103
       refine zm hE ?_; clear hE a; intro a hE
       refine zx hE ?_; clear hE a; intro a hE
       refine zx hE ?_; clear hE a; intro a hE
       refine za hE ?_; clear hE a; intro a hE
       refine za hE ?_; clear hE a; intro a hE
       refine wnt ?_
       refine wsr ?_
       refine zm hE ?_; clear hE a; intro a hE
       refine zm hE ?_; clear hE a; intro a hE
       refine gs hE (p_move rfl) ?_; clear hE a; intro a hE
       refine l_go hE rfl (o_call hE rfl rfl rfl rfl ent_22 (Is_spec (f := .bare 103) hI (hS17.mono ((((((((((hD2.trans hD9).trans hDa).trans hD27).trans hD36).trans hD43).trans hD50).trans hD56).trans hDb).trans hD113).trans hD117)) rfl ⟨by omega, by omega⟩ 103) ?_)
       clear hI hE a
       rintro r w ⟨rfl, hI⟩ a hE
       refine zs hE (p_pick (b := true) rfl rfl) ?_; clear hE a; intro a hE
       refine za hE ?_; clear hE a; intro a hE
       refine wnt ?_
       refine wp_ret ?_
       refine ret1 rfl hE rfl ?_
       exact ⟨rfl, _, ((((((((((hD2.trans hD9).trans hDa).trans hD27).trans hD36).trans hD43).trans hD50).trans hD56).trans hDb).trans hD113).trans hD117), hI.drop.drop.drop.drop.drop⟩
      exfalso
      rw [hap9] at hap110; cases hap110
     intro h8; replace h8 := geq_f h8; clear hE a; intro a hE
     refine wnt ?_
     refine c_false hE rfl ?_
     refine wp_skip ?_
     refine then_normal ?_
     refine wp_seq ?_
     refine wsr ?_
     refine zm hE ?_; clear hE a; intro a hE
     refine zl hE (f_loadA (vs := [_, _, _, _, _, _, _, _, _, _]) rfl agg_88 (hI.seg 1 rfl) rfl rfl) ?_; clear hE a; intro a hE
     obtain ⟨D119, hD120, hIa, hb121⟩ := lit_one (n := 0) 0 hI (by omega) rfl
     replace hI := hIa
     clear hIa
     try simp only [nrm, Value.cells] at hI
     obtain ⟨rc9, hrc9⟩ : ∃ r, r = ({ lsn := 4 + (b.recs.length : Nat), page := id, kind := 2, slot := 8, key := [0], val := [] } : Rc) := ⟨_, rfl⟩
     have hpg9 : rc9.page = id := by rw [hrc9]
     have hap9 := papply_at (P := P9) (r := rc9) (x := x) (by rw [hpg9]; exact hxf)
     refine l_step rfl (o_call hE rfl rfl rfl rfl ent_47 (PApply_spec (rc := rc9) (hI.bring 3) (hP2.mono hD120) (hS.mono (((((((((hD2.trans hD9).trans hDa).trans hD27).trans hD36).trans hD43).trans hD50).trans hD56).trans hDb).trans hD120)) (⟨_, _, by rw [hrc9]; rfl, (by rw [hrc9]; exact hb121), (by rw [hrc9]; exact RB.nil _), ⟨by rw [hrc9]; simp only []; omega, by rw [hrc9]; simp only []; omega, by rw [hrc9]; simp only []; omega, by rw [hrc9]; simp only []; omega, by rw [hrc9]; simp, by rw [hrc9]; simp⟩⟩ : RcV D119 _ rc9)) ?_)
     clear hI hE a
     rintro r w h a hE; rcases h with ⟨P122, hap123, rfl, D124, s125, hD126, hP1127, hI⟩ | ⟨hap123, rfl, hI, hP1127⟩
     ·skip
      replace hI := hI.put_back 3
      try simp only [nrm, Value.cells] at hI
      have hP8 := hap123
      refine zs hE (p_not rfl) ?_; clear hE a; intro a hE
      refine wnt ?_
      refine c_false hE rfl ?_
      refine wp_skip ?_
      refine then_normal ?_
      refine wsr ?_
      refine zm hE ?_; clear hE a; intro a hE
      obtain ⟨hxne, hxmem⟩ := AtPg.leaf htr (by intro h; rw [h] at hkl; simp at hkl) hA hxv (by omega)
      have hbad : BadPg (effP x rc9) := bad_end (x := x) (k0 := [0]) (by omega) hxne (fun e he => by obtain ⟨j, hj, rfl⟩ := kvF_mem (hxmem e he); show ltB [j + 1] [0] = false; rw [ltB, if_neg (by omega)]; simp) _ (by rw [(eff_end (by rw [hrc9]) (by rw [hrc9]) (by omega)).2]; omega) (by rw [(eff_end (by rw [hrc9]) (by rw [hrc9]) (by omega)).1, hrc9])
      obtain ⟨px9, hpx9, hpl9⟩ : ∃ px, (newBt P122).page 0 = .ok px ∧ px.level < 6 := by
       have hq := hap9.symm.trans hP8
       injection hq with hq
       rw [← hq]
       by_cases h0 : (0 : Int) = rc9.page
       ·refine ⟨applyP x rc9, by simp only [Bt.page, newBt, if_pos h0]; rfl, ?_⟩
        have h1 : (applyP x rc9).level = x.level := by
         unfold applyP effP
         rw [hrc9]
         repeat' split
         all_goals first | rfl | (rename_i hq; simp at hq)
        omega
       refine ⟨x0, by simp only [Bt.page, newBt, if_neg h0, hx0f]; rfl, by omega⟩
      obtain ⟨hbw1, hbw2⟩ := check_laid hPH.1 htr (by omega) hA hrf hxf (by omega) hpg9 (by rw [hrc9]) (by rw [hrc9]; simp) hP8 hbad hpx9 (f := 6) (by omega)
      refine l_step rfl (o_call hE rfl rfl rfl rfl ent_45 (Check_spec (f := 6) (hI.bring 3) hP1127 (hS.mono ((((((((((hD2.trans hD9).trans hDa).trans hD27).trans hD36).trans hD43).trans hD50).trans hD56).trans hDb).trans hD120).trans hD126)) hpx9 (by omega) (fun c hc hch => by rw [hbw1 c hc] at hch; cases hch)) ?_)
      clear hI hE a
      rintro r w h a hE; rcases h with ⟨c8, hr8, hch8, rfl, _⟩ | ⟨c8, hr8, hch8, rfl, D128, sp129, hD130, hP131, hI⟩ | ⟨c8, o8, hr8, rfl, D128, sp129, hD130, hP131, hI⟩
      ·skip
       exfalso
       rw [hbw1 c8 hr8] at hch8; cases hch8
      ·skip
       replace hI := hI.put_back 3
       try simp only [nrm, Value.cells] at hI
       refine zm hE ?_; clear hE a; intro a hE
       refine zx hE ?_; clear hE a; intro a hE
       refine zx hE ?_; clear hE a; intro a hE
       refine za hE ?_; clear hE a; intro a hE
       refine za hE ?_; clear hE a; intro a hE
       refine wnt ?_
       refine wsr ?_
       refine zm hE ?_; clear hE a; intro a hE
       refine zm hE ?_; clear hE a; intro a hE
       refine gs hE (p_move rfl) ?_; clear hE a; intro a hE
       refine l_go hE rfl (o_call hE rfl rfl rfl rfl ent_22 (Is_spec (f := .bare 103) hI (hS17.mono (((((((((((hD2.trans hD9).trans hDa).trans hD27).trans hD36).trans hD43).trans hD50).trans hD56).trans hDb).trans hD120).trans hD126).trans hD130)) rfl ⟨by omega, by omega⟩ 103) ?_)
       clear hI hE a
       rintro r w ⟨rfl, hI⟩ a hE
       refine zs hE (p_pick (b := true) rfl rfl) ?_; clear hE a; intro a hE
       refine za hE ?_; clear hE a; intro a hE
       refine wnt ?_
       refine wp_ret ?_
       refine ret1 rfl hE rfl ?_
       exact ⟨rfl, _, (((((((((((hD2.trans hD9).trans hDa).trans hD27).trans hD36).trans hD43).trans hD50).trans hD56).trans hDb).trans hD120).trans hD126).trans hD130), hI.drop.drop.drop.drop⟩
      replace hI := hI.put_back 3
      try simp only [nrm, Value.cells] at hI
      have he103 := hbw2 _ _ hr8
      subst he103
      refine zm hE ?_; clear hE a; intro a hE
      refine zx hE ?_; clear hE a; intro a hE
      refine zx hE ?_; clear hE a; intro a hE
      refine za hE ?_; clear hE a; intro a hE
      refine za hE ?_; clear hE a; intro a hE
      refine wnt ?_
      refine wsr ?_
      refine zm hE ?_; clear hE a; intro a hE
      refine zm hE ?_; clear hE a; intro a hE
      refine gs hE (p_move rfl) ?_; clear hE a; intro a hE
      refine l_go hE rfl (o_call hE rfl rfl rfl rfl ent_22 (Is_spec (f := .bare 103) hI (hS17.mono (((((((((((hD2.trans hD9).trans hDa).trans hD27).trans hD36).trans hD43).trans hD50).trans hD56).trans hDb).trans hD120).trans hD126).trans hD130)) rfl ⟨by omega, by omega⟩ 103) ?_)
      clear hI hE a
      rintro r w ⟨rfl, hI⟩ a hE
      refine zs hE (p_pick (b := true) rfl rfl) ?_; clear hE a; intro a hE
      refine za hE ?_; clear hE a; intro a hE
      refine wnt ?_
      refine wp_ret ?_
      refine ret1 rfl hE rfl ?_
      exact ⟨rfl, _, (((((((((((hD2.trans hD9).trans hDa).trans hD27).trans hD36).trans hD43).trans hD50).trans hD56).trans hDb).trans hD120).trans hD126).trans hD130), hI.drop.drop.drop.drop⟩
     exfalso
     rw [hap9] at hap123; cases hap123
    intro hwt; replace hwt := eql_f hwt; clear hE a; intro a hE
    refine wnt ?_
    refine c_false hE rfl ?_
    refine wp_skip ?_
    refine then_normal ?_
    refine wp_seq ?_
    refine wsr ?_
    refine zs hE (p_fieldAddr (m := 4) rfl fo_83_4 rfl) ?_; clear hE a; intro a hE
    refine zl hE (f_load rfl scal_65 (hI.seg 2 rfl) rfl) ?_; clear hE a; intro a hE
    refine zs hE (p_len rfl rfl Tryd.underlying65) ?_; clear hE a; intro a hE
    refine l_step rfl (o_cmp hE rfl rfl rfl rfl rfl rfl ?_ ?_)
    ·intro h8; replace h8 := geq_t h8; clear hE a; intro a hE
     refine wnt ?_
     refine c_true hE rfl ?_
     refine wp_region_list ?_
     refine zm hE ?_; clear hE a; intro a hE
     refine zm hE ?_; clear hE a; intro a hE
     refine zm hE ?_; clear hE a; intro a hE
     refine zs hE (f_build (vs := [(0, _), (4, _), (5, _), (6, _)]) (l := [_, _, _, _, _, _, _, _, _, _]) rfl built_88 rfl) ?_; clear hE a; intro a hE
     refine l_step rfl (f_store (l := [_, _, _, _, _, _, _, _, _, _]) (ss' := _ :: _) 0 hE hI rfl rfl rfl rfl rfl sz_88 (by simp [Value.cells, Value.oneCell', pgCells, rcCells, zPg]) rfl rfl rfl ?_)
     clear hI w; intro w hI
     refine wnt ?_
     refine wp_seq ?_
     refine wsr ?_
     refine zm hE ?_; clear hE a; intro a hE
     refine zl hE (f_loadA (vs := [_, _, _, _, _, _, _, _, _, _]) rfl agg_88 (hI.seg 0 rfl) rfl rfl) ?_; clear hE a; intro a hE
     obtain ⟨rc9, hrc9⟩ : ∃ r, r = ({ lsn := 4 + (b.recs.length : Nat), page := id, kind := 5, slot := id, key := [], val := [] } : Rc) := ⟨_, rfl⟩
     have hpg9 : rc9.page = id := by rw [hrc9]
     have hap9 := papply_at (P := P9) (r := rc9) (x := x) (by rw [hpg9]; exact hxf)
     refine l_step rfl (o_call hE rfl rfl rfl rfl ent_47 (PApply_spec (rc := rc9) (hI.bring 3) hP2 (hS.mono ((((((((hD2.trans hD9).trans hDa).trans hD27).trans hD36).trans hD43).trans hD50).trans hD56).trans hDb)) (⟨_, _, by rw [hrc9]; rfl, (by rw [hrc9]; exact (RB.nil _)), (by rw [hrc9]; exact RB.nil _), ⟨by rw [hrc9]; simp only []; omega, by rw [hrc9]; simp only []; omega, by rw [hrc9]; simp only []; omega, by rw [hrc9]; simp only []; omega, by rw [hrc9]; simp, by rw [hrc9]; simp⟩⟩ : RcV Db _ rc9)) ?_)
     clear hI hE a
     rintro r w h a hE; rcases h with ⟨P132, hap133, rfl, D134, s135, hD136, hP1137, hI⟩ | ⟨hap133, rfl, hI, hP1137⟩
     ·skip
      replace hI := hI.put_back 3
      try simp only [nrm, Value.cells] at hI
      have hP8 := hap133
      refine zs hE (p_not rfl) ?_; clear hE a; intro a hE
      refine wnt ?_
      refine c_false hE rfl ?_
      refine wp_skip ?_
      refine then_normal ?_
      refine wsr ?_
      refine zm hE ?_; clear hE a; intro a hE
      obtain ⟨hxne, hxmem⟩ := AtPg.leaf htr (by intro h; rw [h] at hkl; simp at hkl) hA hxv (by omega)
      have hbad : BadPg (effP x rc9) := eff_link (by rw [hrc9]) (by rw [hrc9, (hPH.1 _ _ hxf).2.1]) (by rw [(hPH.1 _ _ hxf).2.1]; omega) (by rw [(hPH.1 _ _ hxf).2.1]; omega)
      obtain ⟨px9, hpx9, hpl9⟩ : ∃ px, (newBt P132).page 0 = .ok px ∧ px.level < 6 := by
       have hq := hap9.symm.trans hP8
       injection hq with hq
       rw [← hq]
       by_cases h0 : (0 : Int) = rc9.page
       ·refine ⟨applyP x rc9, by simp only [Bt.page, newBt, if_pos h0]; rfl, ?_⟩
        have h1 : (applyP x rc9).level = x.level := by
         unfold applyP effP
         rw [hrc9]
         repeat' split
         all_goals first | rfl | (rename_i hq; simp at hq)
        omega
       refine ⟨x0, by simp only [Bt.page, newBt, if_neg h0, hx0f]; rfl, by omega⟩
      obtain ⟨hbw1, hbw2⟩ := check_laid hPH.1 htr (by omega) hA hrf hxf (by omega) hpg9 (by rw [hrc9]) (by rw [hrc9]; simp) hP8 hbad hpx9 (f := 6) (by omega)
      refine l_step rfl (o_call hE rfl rfl rfl rfl ent_45 (Check_spec (f := 6) (hI.bring 3) hP1137 (hS.mono (((((((((hD2.trans hD9).trans hDa).trans hD27).trans hD36).trans hD43).trans hD50).trans hD56).trans hDb).trans hD136)) hpx9 (by omega) (fun c hc hch => by rw [hbw1 c hc] at hch; cases hch)) ?_)
      clear hI hE a
      rintro r w h a hE; rcases h with ⟨c8, hr8, hch8, rfl, _⟩ | ⟨c8, hr8, hch8, rfl, D138, sp139, hD140, hP141, hI⟩ | ⟨c8, o8, hr8, rfl, D138, sp139, hD140, hP141, hI⟩
      ·skip
       exfalso
       rw [hbw1 c8 hr8] at hch8; cases hch8
      ·skip
       replace hI := hI.put_back 3
       try simp only [nrm, Value.cells] at hI
       refine zm hE ?_; clear hE a; intro a hE
       refine zx hE ?_; clear hE a; intro a hE
       refine zx hE ?_; clear hE a; intro a hE
       refine za hE ?_; clear hE a; intro a hE
       refine za hE ?_; clear hE a; intro a hE
       refine wnt ?_
       refine wsr ?_
       refine zm hE ?_; clear hE a; intro a hE
       refine zm hE ?_; clear hE a; intro a hE
       refine gs hE (p_move rfl) ?_; clear hE a; intro a hE
       refine l_go hE rfl (o_call hE rfl rfl rfl rfl ent_22 (Is_spec (f := .bare 103) hI (hS17.mono ((((((((((hD2.trans hD9).trans hDa).trans hD27).trans hD36).trans hD43).trans hD50).trans hD56).trans hDb).trans hD136).trans hD140)) rfl ⟨by omega, by omega⟩ 103) ?_)
       clear hI hE a
       rintro r w ⟨rfl, hI⟩ a hE
       refine zs hE (p_pick (b := true) rfl rfl) ?_; clear hE a; intro a hE
       refine za hE ?_; clear hE a; intro a hE
       refine wnt ?_
       refine wp_ret ?_
       refine ret1 rfl hE rfl ?_
       exact ⟨rfl, _, ((((((((((hD2.trans hD9).trans hDa).trans hD27).trans hD36).trans hD43).trans hD50).trans hD56).trans hDb).trans hD136).trans hD140), hI.drop.drop.drop.drop⟩
      replace hI := hI.put_back 3
      try simp only [nrm, Value.cells] at hI
      have he103 := hbw2 _ _ hr8
      subst he103
      refine zm hE ?_; clear hE a; intro a hE
      refine zx hE ?_; clear hE a; intro a hE
      refine zx hE ?_; clear hE a; intro a hE
      refine za hE ?_; clear hE a; intro a hE
      refine za hE ?_; clear hE a; intro a hE
      refine wnt ?_
      refine wsr ?_
      refine zm hE ?_; clear hE a; intro a hE
      refine zm hE ?_; clear hE a; intro a hE
      refine gs hE (p_move rfl) ?_; clear hE a; intro a hE
      refine l_go hE rfl (o_call hE rfl rfl rfl rfl ent_22 (Is_spec (f := .bare 103) hI (hS17.mono ((((((((((hD2.trans hD9).trans hDa).trans hD27).trans hD36).trans hD43).trans hD50).trans hD56).trans hDb).trans hD136).trans hD140)) rfl ⟨by omega, by omega⟩ 103) ?_)
      clear hI hE a
      rintro r w ⟨rfl, hI⟩ a hE
      refine zs hE (p_pick (b := true) rfl rfl) ?_; clear hE a; intro a hE
      refine za hE ?_; clear hE a; intro a hE
      refine wnt ?_
      refine wp_ret ?_
      refine ret1 rfl hE rfl ?_
      exact ⟨rfl, _, ((((((((((hD2.trans hD9).trans hDa).trans hD27).trans hD36).trans hD43).trans hD50).trans hD56).trans hDb).trans hD136).trans hD140), hI.drop.drop.drop.drop⟩
     exfalso
     rw [hap9] at hap133; cases hap133
    intro h8; replace h8 := geq_f h8; clear hE a; intro a hE
    refine wnt ?_
    refine c_false hE rfl ?_
    refine wp_skip ?_
    refine then_normal ?_
    refine wp_seq ?_
    refine wsr ?_
    refine zm hE ?_; clear hE a; intro a hE
    refine zl hE (f_loadA (vs := [_, _, _, _, _, _, _, _, _, _]) rfl agg_88 (hI.seg 0 rfl) rfl rfl) ?_; clear hE a; intro a hE
    obtain ⟨D142, hD143, hIa, hb144⟩ := lit_one (n := 255) 1 hI (by omega) rfl
    replace hI := hIa
    clear hIa
    try simp only [nrm, Value.cells] at hI
    obtain ⟨rc9, hrc9⟩ : ∃ r, r = ({ lsn := 4 + (b.recs.length : Nat), page := id, kind := 2, slot := 0, key := [255], val := [] } : Rc) := ⟨_, rfl⟩
    have hpg9 : rc9.page = id := by rw [hrc9]
    have hap9 := papply_at (P := P9) (r := rc9) (x := x) (by rw [hpg9]; exact hxf)
    refine l_step rfl (o_call hE rfl rfl rfl rfl ent_47 (PApply_spec (rc := rc9) (hI.bring 2) (hP2.mono hD143) (hS.mono (((((((((hD2.trans hD9).trans hDa).trans hD27).trans hD36).trans hD43).trans hD50).trans hD56).trans hDb).trans hD143)) (⟨_, _, by rw [hrc9]; rfl, (by rw [hrc9]; exact hb144), (by rw [hrc9]; exact RB.nil _), ⟨by rw [hrc9]; simp only []; omega, by rw [hrc9]; simp only []; omega, by rw [hrc9]; simp only []; omega, by rw [hrc9]; simp only []; omega, by rw [hrc9]; simp, by rw [hrc9]; simp⟩⟩ : RcV D142 _ rc9)) ?_)
    clear hI hE a
    rintro r w h a hE; rcases h with ⟨P145, hap146, rfl, D147, s148, hD149, hP1150, hI⟩ | ⟨hap146, rfl, hI, hP1150⟩
    ·skip
     replace hI := hI.put_back 2
     try simp only [nrm, Value.cells] at hI
     have hP8 := hap146
     refine zs hE (p_not rfl) ?_; clear hE a; intro a hE
     refine wnt ?_
     refine c_false hE rfl ?_
     refine wp_skip ?_
     refine then_normal ?_
     refine wsr ?_
     refine zm hE ?_; clear hE a; intro a hE
     obtain ⟨hxne, hxmem⟩ := AtPg.leaf htr (by intro h; rw [h] at hkl; simp at hkl) hA hxv (by omega)
     have hbad : BadPg (effP x rc9) := bad_front (x := x) (k0 := [255]) (by omega) hxne (fun e he => by obtain ⟨j, hj, rfl⟩ := kvF_mem (hxmem e he); show ltB [255] [j + 1] = false; rw [ltB, if_neg (by omega)]; simp; omega) _ (by rw [(eff_front (by rw [hrc9]) (by rw [hrc9]) (by omega)).2]; omega) (by rw [(eff_front (by rw [hrc9]) (by rw [hrc9]) (by omega)).1, hrc9])
     obtain ⟨px9, hpx9, hpl9⟩ : ∃ px, (newBt P145).page 0 = .ok px ∧ px.level < 6 := by
      have hq := hap9.symm.trans hP8
      injection hq with hq
      rw [← hq]
      by_cases h0 : (0 : Int) = rc9.page
      ·refine ⟨applyP x rc9, by simp only [Bt.page, newBt, if_pos h0]; rfl, ?_⟩
       have h1 : (applyP x rc9).level = x.level := by
        unfold applyP effP
        rw [hrc9]
        repeat' split
        all_goals first | rfl | (rename_i hq; simp at hq)
       omega
      refine ⟨x0, by simp only [Bt.page, newBt, if_neg h0, hx0f]; rfl, by omega⟩
     obtain ⟨hbw1, hbw2⟩ := check_laid hPH.1 htr (by omega) hA hrf hxf (by omega) hpg9 (by rw [hrc9]) (by rw [hrc9]; simp) hP8 hbad hpx9 (f := 6) (by omega)
     refine l_step rfl (o_call hE rfl rfl rfl rfl ent_45 (Check_spec (f := 6) (hI.bring 2) hP1150 (hS.mono ((((((((((hD2.trans hD9).trans hDa).trans hD27).trans hD36).trans hD43).trans hD50).trans hD56).trans hDb).trans hD143).trans hD149)) hpx9 (by omega) (fun c hc hch => by rw [hbw1 c hc] at hch; cases hch)) ?_)
     clear hI hE a
     rintro r w h a hE; rcases h with ⟨c8, hr8, hch8, rfl, _⟩ | ⟨c8, hr8, hch8, rfl, D151, sp152, hD153, hP154, hI⟩ | ⟨c8, o8, hr8, rfl, D151, sp152, hD153, hP154, hI⟩
     ·skip
      exfalso
      rw [hbw1 c8 hr8] at hch8; cases hch8
     ·skip
      replace hI := hI.put_back 2
      try simp only [nrm, Value.cells] at hI
      refine zm hE ?_; clear hE a; intro a hE
      refine zx hE ?_; clear hE a; intro a hE
      refine zx hE ?_; clear hE a; intro a hE
      refine za hE ?_; clear hE a; intro a hE
      refine za hE ?_; clear hE a; intro a hE
      refine wnt ?_
      refine wsr ?_
      refine zm hE ?_; clear hE a; intro a hE
      refine zm hE ?_; clear hE a; intro a hE
      refine gs hE (p_move rfl) ?_; clear hE a; intro a hE
      refine l_go hE rfl (o_call hE rfl rfl rfl rfl ent_22 (Is_spec (f := .bare 103) hI (hS17.mono (((((((((((hD2.trans hD9).trans hDa).trans hD27).trans hD36).trans hD43).trans hD50).trans hD56).trans hDb).trans hD143).trans hD149).trans hD153)) rfl ⟨by omega, by omega⟩ 103) ?_)
      clear hI hE a
      rintro r w ⟨rfl, hI⟩ a hE
      refine zs hE (p_pick (b := true) rfl rfl) ?_; clear hE a; intro a hE
      refine za hE ?_; clear hE a; intro a hE
      refine wnt ?_
      refine wp_ret ?_
      refine ret1 rfl hE rfl ?_
      exact ⟨rfl, _, (((((((((((hD2.trans hD9).trans hDa).trans hD27).trans hD36).trans hD43).trans hD50).trans hD56).trans hDb).trans hD143).trans hD149).trans hD153), hI.drop.drop.drop⟩
     replace hI := hI.put_back 2
     try simp only [nrm, Value.cells] at hI
     have he103 := hbw2 _ _ hr8
     subst he103
     refine zm hE ?_; clear hE a; intro a hE
     refine zx hE ?_; clear hE a; intro a hE
     refine zx hE ?_; clear hE a; intro a hE
     refine za hE ?_; clear hE a; intro a hE
     refine za hE ?_; clear hE a; intro a hE
     refine wnt ?_
     refine wsr ?_
     refine zm hE ?_; clear hE a; intro a hE
     refine zm hE ?_; clear hE a; intro a hE
     refine gs hE (p_move rfl) ?_; clear hE a; intro a hE
     refine l_go hE rfl (o_call hE rfl rfl rfl rfl ent_22 (Is_spec (f := .bare 103) hI (hS17.mono (((((((((((hD2.trans hD9).trans hDa).trans hD27).trans hD36).trans hD43).trans hD50).trans hD56).trans hDb).trans hD143).trans hD149).trans hD153)) rfl ⟨by omega, by omega⟩ 103) ?_)
     clear hI hE a
     rintro r w ⟨rfl, hI⟩ a hE
     refine zs hE (p_pick (b := true) rfl rfl) ?_; clear hE a; intro a hE
     refine za hE ?_; clear hE a; intro a hE
     refine wnt ?_
     refine wp_ret ?_
     refine ret1 rfl hE rfl ?_
     exact ⟨rfl, _, (((((((((((hD2.trans hD9).trans hDa).trans hD27).trans hD36).trans hD43).trans hD50).trans hD56).trans hDb).trans hD143).trans hD149).trans hD153), hI.drop.drop.drop⟩
    exfalso
    rw [hap9] at hap146; cases hap146
   exfalso
   rw [hx0f] at hbad9; cases hbad9
  ·skip
   exfalso
   first | (rw [hw40] at hr8; injection hr8 with hr8; subst hr8; rw [hch40] at hch8; cases hch8) | (rw [hw40] at hr8; cases hr8)
  exfalso
  first | (rw [hw40] at hr8; injection hr8 with hr8; subst hr8; rw [hch40] at hch8; cases hch8) | (rw [hw40] at hr8; cases hr8)
 exfalso
 rw [hlaid] at hla39; cases hla39
end Go.Proofs.YtbogbnkckofpdaaDoor.B
