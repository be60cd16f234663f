/- What functions of the program compute, each function once: steps over the model, and the plain law of it. -/
import Derived.Test.YtbogbnkckofpdaaDoorTRowsP
import Derived.Test.YtbogbnkckofpdaaDoorTApart2
import Derived.Test.YtbogbnkckofpdaaDoorTCheckA
import Derived.Test.YtbogbnkckofpdaaDoorTFirst
namespace Go.Proofs.YtbogbnkckofpdaaDoor.B
open Go Go.Proofs
set_option linter.unusedVariables false
set_option linter.unusedSimpArgs false
set_option maxRecDepth 20000
set_option maxHeartbeats 8000000
namespace FTTreeRows
theorem ent_20 : enters Tryd.prog 20 = true := by kernel_rfl
theorem ent_30 : enters Tryd.prog 30 = true := by kernel_rfl
theorem ent_32 : enters Tryd.prog 32 = true := by kernel_rfl
theorem ent_33 : enters Tryd.prog 33 = true := by kernel_rfl
theorem ent_34 : enters Tryd.prog 34 = true := by kernel_rfl
theorem ent_36 : enters Tryd.prog 36 = true := by kernel_rfl
theorem ent_37 : enters Tryd.prog 37 = true := by kernel_rfl
theorem ent_45 : enters Tryd.prog 45 = true := by kernel_rfl
theorem ent_51 : enters Tryd.prog 51 = true := by kernel_rfl
theorem ent_52 : enters Tryd.prog 52 = true := by kernel_rfl
theorem scal_3 : isScal Tryd.prog 3 = true := by kernel_rfl
theorem sz_3 : (Tryd.prog.info? 3).map (·.size) = some 1 := by kernel_rfl
theorem zs_3 : (Tryd.prog.info? 3).map (fun i => (i.zero, i.size)) = some (some (.int .i64 0), 1) := by kernel_rfl
theorem zs_5 : (Tryd.prog.info? 5).map (fun i => (i.zero, i.size)) = some (some (.int .u8 0), 1) := by kernel_rfl
end FTTreeRows
open FTTreeRows
theorem At.snoc5 {D : Sto} (a b c d e : Nat) : At 1 NaR D #[.int .i64 a, .int .i64 b, .int .i64 c, .int .i64 d, .int .i64 e] 0 [a, b, c, d, e] := by
 have a1 := At.snoc (At.nil (R := NaR) (D := D) (size := 1)) (by simp) (show ([.int .i64 a] : List Value).length = 1 from rfl) (show NaR D [.int .i64 a] a from rfl)
 have a2 := At.snoc a1 (by simp) (show ([.int .i64 b] : List Value).length = 1 from rfl) (show NaR D [.int .i64 b] b from rfl)
 have a3 := At.snoc a2 (by simp) (show ([.int .i64 c] : List Value).length = 1 from rfl) (show NaR D [.int .i64 c] c from rfl)
 have a4 := At.snoc a3 (by simp) (show ([.int .i64 d] : List Value).length = 1 from rfl) (show NaR D [.int .i64 d] d from rfl)
 have a5 := At.snoc a4 (by simp) (show ([.int .i64 e] : List Value).length = 1 from rfl) (show NaR D [.int .i64 e] e from rfl)
 simpa using a5 []
theorem DR.na5 {D : Sto} {bk a b c d e : Nat} {w0 w : World} {ss : List Seg} (i : Nat) (hI : Inv w0 D ss w) (hi : ss[i]? = some [(bk, .cells #[.int .i64 a, .int .i64 b, .int .i64 c, .int .i64 d, .int .i64 e] 3 (0, 0))]) :
  ∃ D' ks, Le D D' ∧ ks = [a, b, c, d, e] ∧ ks.length = 5 ∧ Inv w0 D' (ss.eraseIdx i) w ∧ DR 1 NaR D' (.slice (some ⟨bk, 0, none⟩) 5 5) ks := by
 obtain ⟨h1, h2⟩ := hI.shut_at i hi
 exact ⟨_, _, h2, rfl, rfl, h1, OR.shut NaR.keeps (OR.ofAt (T := 3) rfl (Nat.le_refl _) (by simp [maxLen]) rfl (At.snoc5 a b c d e)) h2⟩
theorem muls_get : ∀ s, s < 5 → ([1, 3, 7, 11, 13] : List Nat)[s]? = some (mulS s) := by decide
theorem TreeRows_spec {w0 w : World} {D : Sto} {ss : List Seg} (hI : Inv w0 D ss w) {ad : Nat → Addr} (hS : TSents D ad) (i0 i1 i2 : Int) :
  Calls Tryd.prog 13 #[.int .i64 i0, .int .i64 i1, .int .i64 i2] w (Ret fun r w' => r = .bool true ∧ ∃ D', Le D D' ∧ Inv w0 D' ss w') := by
 refine enter (N := 157) Tryd.func13 rfl rfl rfl ?_
 intro a hE
 refine wsr ?_
 refine za hE ?_; clear hE a; intro a hE
 refine wnt ?_
 refine wsr ?_
 refine l_step rfl (o_call hE rfl rfl rfl rfl ent_30 (first21_spec hI hS) ?_)
 clear hI hE a
 rintro r w ⟨D1, hD2, hI, rfl⟩ a hE
 refine za hE ?_; clear hE a; intro a hE
 refine wnt ?_
 refine wp_seq ?_
 refine wsr ?_
 refine zm hE ?_; clear hE a; intro a hE
 refine zs hE (p_not rfl) ?_; clear hE a; intro a hE
 refine wnt ?_
 refine c_false hE rfl ?_
 refine wp_skip ?_
 refine then_normal ?_
 refine wsr ?_
 refine zm hE ?_; clear hE a; intro a hE
 refine l_step rfl (o_call hE rfl rfl rfl rfl ent_20 (Number_spec (m := 200) hI _ (by omega) (by omega)) ?_)
 clear hI hE a
 rintro r w ⟨⟨z3, rfl, hz4, hz5⟩, hI⟩ a hE
 obtain ⟨n, hq_n⟩ : ∃ q : Nat, z3 = q := ⟨z3.toNat, by omega⟩
 subst hq_n
 have hn : n < 200 := by omega
 refine zs hE (p_arith (z := ((n + 1 : Nat) : Int)) rfl rfl (add_z (by omega) (by omega) (by omega))) ?_; clear hE a; intro a hE
 refine za hE ?_; clear hE a; intro a hE
 refine wnt ?_
 refine wsr ?_
 refine l_step rfl (o_call hE rfl rfl rfl rfl ent_32 (empty_spec hI (hS.mono hD2)) ?_)
 clear hI hE a
 rintro r w ⟨D6, s7, q8, hD9, rfl, hP10, hI⟩ a hE
 refine zm hE ?_; clear hE a; intro a hE
 refine zx hE ?_; clear hE a; intro a hE
 refine zx hE ?_; clear hE a; intro a hE
 refine za hE ?_; clear hE a; intro a hE
 refine za hE ?_; clear hE a; intro a hE
 refine wnt ?_
 refine wp_seq ?_
 refine wsr ?_
 refine zm hE ?_; clear hE a; intro a hE
 refine zs hE (p_eq rfl rfl (g_none rfl) (e_ptrNil Tryd.underlying52 rfl) rfl rfl) ?_; clear hE a; intro a hE
 refine wnt ?_
 refine c_false hE rfl ?_
 refine wp_skip ?_
 refine then_normal ?_
 refine wsr ?_
 refine l_step rfl (f_lit (vs := [(0, _), (1, _), (2, _), (3, _), (4, _)]) (l := [_, _, _, _, _]) hE hI rfl rfl rfl rfl Tryd.underlying97 zs_3 rfl rfl rfl ?_)
 clear hI hE a w; intro a b11 w hE hI
 refine zm hE ?_; clear hE a; intro a hE
 refine l_step rfl (o_call hE rfl rfl rfl rfl ent_20 (Number_spec (m := 5) hI _ (by omega) (by omega)) ?_)
 clear hI hE a
 rintro r w ⟨⟨z12, rfl, hz13, hz14⟩, hI⟩ a hE
 obtain ⟨s1, hq_s1⟩ : ∃ q : Nat, z12 = q := ⟨z12.toNat, by omega⟩
 subst hq_s1
 have hs1 : s1 < 5 := by omega
 obtain ⟨Dk15, ks15, hDk15, hks15, hkl15, hIk, hK15⟩ := DR.na5 0 hI rfl
 replace hI := hIk
 clear hIk
 try simp only [nrm, Value.cells] at hI
 obtain ⟨x_16, hx_16⟩ : ∃ z9, (ks15)[s1]? = some z9 := ⟨_, List.getElem?_eq_getElem (by omega)⟩
 obtain ⟨b_16, o_16, cs_16, T_16, fr_16, hA_16, hb_16, hat_16⟩ := hK15.at_ (by intro h0; rw [h0] at hx_16; simp at hx_16)
 injection hA_16 with hA_16
 injection hA_16 with hA1_16 hA2_16 hA3_16
 subst hA1_16
 subst hA2_16
 obtain ⟨vs_16, hl_16, rfl, hex_16, hsz_16, hce_16⟩ := hat_16.extract hx_16 (by omega)
 refine zs hE (p_indexAddr (m := 0 + s1 * 1) rfl rfl Tryd.underlying97 sz_3 (by omega) (by omega) (by simp)) ?_; clear hE a; intro a hE
 obtain rfl : x_16 = mulS s1 := by rw [hks15, muls_get s1 (by omega)] at hx_16; injection hx_16 with h9; exact h9.symm
 refine zl hE (r_load rfl scal_3 (hI.data _ _ (hb_16)) (hce_16 0 _ rfl)) ?_; clear hE a; intro a hE
 refine za hE ?_; clear hE a; intro a hE
 refine wnt ?_
 refine wsr ?_
 refine l_step rfl (f_lit (vs := [(0, _), (1, _), (2, _), (3, _), (4, _)]) (l := [_, _, _, _, _]) hE hI rfl rfl rfl rfl Tryd.underlying97 zs_3 rfl rfl rfl ?_)
 clear hI hE a w; intro a b17 w hE hI
 refine zm hE ?_; clear hE a; intro a hE
 refine l_step rfl (o_call hE rfl rfl rfl rfl ent_20 (Number_spec (m := 5) hI _ (by omega) (by omega)) ?_)
 clear hI hE a
 rintro r w ⟨⟨z18, rfl, hz19, hz20⟩, hI⟩ a hE
 obtain ⟨s2, hq_s2⟩ : ∃ q : Nat, z18 = q := ⟨z18.toNat, by omega⟩
 subst hq_s2
 have hs2 : s2 < 5 := by omega
 obtain ⟨Dk21, ks21, hDk21, hks21, hkl21, hIk, hK21⟩ := DR.na5 0 hI rfl
 replace hI := hIk
 clear hIk
 try simp only [nrm, Value.cells] at hI
 obtain ⟨x_22, hx_22⟩ : ∃ z9, (ks21)[s2]? = some z9 := ⟨_, List.getElem?_eq_getElem (by omega)⟩
 obtain ⟨b_22, o_22, cs_22, T_22, fr_22, hA_22, hb_22, hat_22⟩ := hK21.at_ (by intro h0; rw [h0] at hx_22; simp at hx_22)
 injection hA_22 with hA_22
 injection hA_22 with hA1_22 hA2_22 hA3_22
 subst hA1_22
 subst hA2_22
 obtain ⟨vs_22, hl_22, rfl, hex_22, hsz_22, hce_22⟩ := hat_22.extract hx_22 (by omega)
 refine zs hE (p_indexAddr (m := 0 + s2 * 1) rfl rfl Tryd.underlying97 sz_3 (by omega) (by omega) (by simp)) ?_; clear hE a; intro a hE
 obtain rfl : x_22 = mulS s2 := by rw [hks21, muls_get s2 (by omega)] at hx_22; injection hx_22 with h9; exact h9.symm
 refine zl hE (r_load rfl scal_3 (hI.data _ _ (hb_22)) (hce_22 0 _ rfl)) ?_; clear hE a; intro a hE
 refine za hE ?_; clear hE a; intro a hE
 refine wnt ?_
 refine wsr ?_
 refine za hE ?_; clear hE a; intro a hE
 refine wnt ?_
 refine wp_seq ?_
 refine wsr ?_
 refine za hE ?_; clear hE a; intro a hE
 refine wnt ?_
 refine wp_block ?_
 refine c_loop (X := Sto × Nat × Pl × Int × Seg) (fun y => [(0, _), (7, _), (8, _), (10, _), (11, _), (12, _), (9, .int .i64 y.2.2.2.1), (13, .int .i64 (y.2.1 : Nat))]) (fun y w => y.2.1 ≤ 2 ∧ Le Dk21 y.1 ∧ PHoldsA y.2.2.1 y.2.2.2.1 (201 * y.2.1) [] ∧ 4 ≤ y.2.2.2.1 ∧ y.2.2.2.1 ≤ 4 + 200000 * (y.2.1 : Nat) ∧ PoolS y.1 (.pointer (some ⟨q8, 0, none⟩)) y.2.2.1 y.2.2.2.2 ∧ Inv w0 y.1 (y.2.2.2.2 :: ss) w) (fun y => 2 - y.2.1) (Dk21, 0, E0, 4, s7) (hE.pick [0, 7, 8, 10, 11, 12, 9, 13]) ⟨Nat.zero_le _, Le.refl _, E0_holdsA, by show (4 : Int) ≤ 4; omega, by show (4 : Int) ≤ 4 + 200000 * ((0 : Nat) : Int); omega, (hP10.mono (hDk15.trans hDk21)), hI⟩ ?_
 clear hE hI a w
 rintro ⟨Da, r, P, lsn, sp⟩ a w hE ⟨hr2, hDa, hPH, hl0, hl1, hP1, hI⟩
 try dsimp only at hE
 try dsimp only at hr2
 try dsimp only at hDa
 try dsimp only at hPH
 try dsimp only at hl0
 try dsimp only at hl1
 try dsimp only at hP1
 try dsimp only at hI
 refine wp_seq ?_
 refine wsr ?_
 refine zm hE ?_; clear hE a; intro a hE
 refine l_step rfl (o_cmp hE rfl rfl rfl rfl rfl rfl ?_ ?_)
 ·intro hlr; replace hlr := lss_t hlr; clear hE a; intro a hE
  refine wnt ?_
  refine c_true hE rfl ?_
  refine wp_skip ?_
  refine then_normal ?_
  refine wp_seq ?_
  refine wp_block ?_
  refine wp_seq ?_
  refine wsr ?_
  refine za hE ?_; clear hE a; intro a hE
  refine wnt ?_
  refine wp_block ?_
  refine c_loop (X := Sto × Nat × Pl × Int × Ens × Seg) (fun y => [(0, _), (7, _), (8, _), (10, _), (11, _), (12, _), (13, _), (9, .int .i64 y.2.2.2.1), (14, .int .i64 (y.2.1 : Nat))]) (fun y w => 1 ≤ y.2.1 ∧ y.2.1 ≤ n + 2 ∧ Le Da y.1 ∧ PHoldsA y.2.2.1 y.2.2.2.1 (201 * r + y.2.1) y.2.2.2.2.1 ∧ PutR s1 y.2.1 y.2.2.2.2.1 ∧ 4 ≤ y.2.2.2.1 ∧ y.2.2.2.1 ≤ 4 + 200000 * (r : Int) + 601 * (y.2.1 : Nat) ∧ PoolS y.1 (.pointer (some ⟨q8, 0, none⟩)) y.2.2.1 y.2.2.2.2.2 ∧ Inv w0 y.1 (y.2.2.2.2.2 :: ss) w) (fun y => n + 2 - y.2.1) (Da, 1, P, lsn, [], sp) (hE.pick [0, 7, 8, 10, 11, 12, 13, 9, 14]) ⟨Nat.le_refl _, by show 1 ≤ n + 2; omega, Le.refl _, ⟨hPH.1, hPH.2.mono (Nat.le_succ _)⟩, PutR.start _, hl0, by show lsn ≤ 4 + 200000 * (r : Int) + 601 * ((1 : Nat) : Int); omega, hP1, hI⟩ ?_
  clear hE hI a w
  rintro ⟨Db, i, P, lsn, kv, sp⟩ a w hE ⟨hi1, hi2, hDb, hPH, hPR, hl2, hl3, hP1, hI⟩
  try dsimp only at hE
  try dsimp only at hi1
  try dsimp only at hi2
  try dsimp only at hDb
  try dsimp only at hPH
  try dsimp only at hPR
  try dsimp only at hl2
  try dsimp only at hl3
  try dsimp only at hP1
  try dsimp only at hI
  refine wp_seq ?_
  refine wsr ?_
  refine zm hE ?_; clear hE a; intro a hE
  refine zm hE ?_; clear hE a; intro a hE
  refine l_step rfl (o_cmp hE rfl rfl rfl rfl rfl rfl ?_ ?_)
  ·intro hle; replace hle := leq_t hle; clear hE a; intro a hE
   refine wnt ?_
   refine c_true hE rfl ?_
   refine wp_skip ?_
   refine then_normal ?_
   refine wp_seq ?_
   refine wp_block ?_
   refine wp_seq ?_
   obtain ⟨t9, ht9⟩ : ∃ t, t = i * mulS s1 := ⟨_, rfl⟩
   have hml9 := mulS_le s1
   have ht9b : t9 ≤ 211 * 13 := by rw [ht9]; exact Nat.mul_le_mul (by omega) hml9.2
   have hkr : keyR s1 i = [t9 % 211, 1] := by rw [keyR, ht9]
   refine wp_region_list ?_
   refine zm hE ?_; clear hE a; intro a hE
   refine zm hE ?_; clear hE a; intro a hE
   refine zs hE (p_arith (z := ((t9 : Nat) : Int)) rfl rfl (mul_z (by rw [ht9]; exact (Int.natCast_mul _ _).symm) (by omega) (by omega))) ?_; clear hE a; intro a hE
   refine zm hE ?_; clear hE a; intro a hE
   refine zs hE (p_arith (z := ((t9 % 211 : Nat) : Int)) rfl rfl (rem_z rfl (by decide))) ?_; clear hE a; intro a hE
   refine za hE ?_; clear hE a; intro a hE
   refine wnt ?_
   refine wsr ?_
   refine zm hE ?_; clear hE a; intro a hE
   refine l_step rfl (o_call hE rfl rfl rfl rfl ent_33 (New_spec hI P (some ⟨q8, 0, none⟩)) ?_)
   clear hI hE a
   rintro r w ⟨sb23, hB24, hI⟩ a hE
   obtain ⟨bb25, hvb⟩ := BatchS.ptr hB24
   subst hvb
   refine za hE ?_; clear hE a; intro a hE
   refine wnt ?_
   refine wp_seq ?_
   refine wsr ?_
   refine zm hE ?_; clear hE a; intro a hE
   refine zm hE ?_; clear hE a; intro a hE
   refine zs hE (p_int (z := ((t9 % 211 : Nat) : Int)) Tryd.underlying3 Tryd.underlying5 rfl (by rw [u8_z]; omega)) ?_; clear hE a; intro a hE
   refine l_step rfl (f_lit (vs := [(0, _), (1, _)]) (l := [_, _]) hE hI rfl rfl rfl rfl Tryd.underlying22 zs_5 rfl rfl rfl ?_)
   clear hI hE a w; intro a b26 w hE hI
   refine zm hE ?_; clear hE a; intro a hE
   refine zs hE (p_int (z := ((i : Nat) : Int)) Tryd.underlying3 Tryd.underlying5 rfl (by rw [u8_z]; omega)) ?_; clear hE a; intro a hE
   refine l_step rfl (f_lit (vs := [(0, _)]) (l := [_]) hE hI rfl rfl rfl rfl Tryd.underlying22 zs_5 rfl rfl rfl ?_)
   clear hI hE a w; intro a b27 w hE hI
   obtain ⟨D28, hD29, hIa, hb30⟩ := lit_two (n := t9 % 211) (m := 1) 1 hI (by omega) (by omega) rfl
   replace hI := hIa
   clear hIa
   try simp only [nrm, Value.cells] at hI
   obtain ⟨D31, hD32, hIa, hb33⟩ := lit_one (n := i) 0 hI (by omega) rfl
   replace hI := hIa
   clear hIa
   try simp only [nrm, Value.cells] at hI
   obtain ⟨b9, hput9, hh9⟩ := hPH.2.put (key := [t9 % 211, 1]) (val := [i]) (by omega) (by rw [← hkr]; exact keyR_right _ _) (by simp)
   have hr9 := put_runs (AllOk.new hPH.1) hput9
   have hrl := (Runs.len hr9).1
   have he0 : (newBt P).recs.length = 0 := rfl
   refine l_step rfl (o_call hE rfl rfl rfl rfl ent_34 (BPut_ok hI (hS.mono (((((((hD2.trans hD9).trans hDk15).trans hDk21).trans hDa).trans hDb).trans hD29).trans hD32)) (hB24.mono (hD29.trans hD32)) (hP1.mono (hD29.trans hD32)) rfl (hb30.mono hD32) hb33 (by show (0 : Nat) ≤ _; omega) hput9) ?_)
   clear hI hE a
   rintro r w ⟨rfl, D34, sb35, sp36, hD37, hB38, hP39, hI⟩ a hE
   refine zs hE (p_ifaceNil Tryd.underlying25 rfl rfl rfl) ?_; clear hE a; intro a hE
   refine wnt ?_
   refine c_false hE rfl ?_
   refine wp_skip ?_
   refine then_normal ?_
   refine wsr ?_
   refine zm hE ?_; clear hE a; intro a hE
   refine zm hE ?_; clear hE a; intro a hE
   refine l_step rfl (o_call hE rfl rfl rfl rfl ent_37 (Redo_ok hI (hS.mono ((((((((hD2.trans hD9).trans hDk15).trans hDk21).trans hDa).trans hDb).trans hD29).trans hD32).trans hD37)) hB38 hP39 ((Runs.len hr9).2) (by omega)) ?_)
   clear hI hE a
   rintro r w ⟨D40, sb41, sp42, hD43, hL44, hB45, hP46, hI⟩ a hE
   obtain ⟨A47, c48, rfl, _⟩ := hL44.slice
   refine zm hE ?_; clear hE a; intro a hE
   obtain ⟨_, P9, hlaid9, hPH9⟩ := laid_holdsA hPH.1 (by omega) hr9 (by omega) hh9
   refine l_step rfl (o_call hE rfl rfl rfl rfl ent_36 (laid_spec (hI.bring 1) hP46 (hS.mono (((((((((hD2.trans hD9).trans hDk15).trans hDk21).trans hDa).trans hDb).trans hD29).trans hD32).trans hD37).trans hD43)) hL44 (n := lsn) (by omega) (by omega) (by omega)) ?_)
   clear hI hE a
   rintro r w h a hE; rcases h with ⟨D49, s50, P51, hD52, hP53, hI, ⟨m54, hla55, rfl⟩ | ⟨hla55, m54, rfl⟩⟩
   ·skip
    replace hI := hI.put_back 1
    try simp only [nrm, Value.cells] at hI
    rw [hlaid9] at hla55
    injection hla55 with hla55
    injection hla55 with hz1 hz2
    subst hz1
    subst hz2
    refine zm hE ?_; clear hE a; intro a hE
    refine zx hE ?_; clear hE a; intro a hE
    refine zx hE ?_; clear hE a; intro a hE
    refine za hE ?_; clear hE a; intro a hE
    refine za hE ?_; clear hE a; intro a hE
    refine wnt ?_
    refine wp_seq ?_
    refine wsr ?_
    refine zm hE ?_; clear hE a; intro a hE
    refine zs hE (p_not rfl) ?_; clear hE a; intro a hE
    refine wnt ?_
    refine c_false hE rfl ?_
    refine wp_skip ?_
    refine then_normal ?_
    refine wp_region_list ?_
    refine zm hE ?_; clear hE a; intro a hE
    refine za hE ?_; clear hE a; intro a hE
    refine wpList_nil ?_
    refine blk_normal ?_
    refine then_normal ?_
    refine wp_region_list ?_
    refine zm hE ?_; clear hE a; intro a hE
    refine zs hE (p_arith (z := ((i + 1 : Nat) : Int)) rfl rfl (add_z (by omega) (by omega) (by omega))) ?_; clear hE a; intro a hE
    refine za hE ?_; clear hE a; intro a hE
    refine wnt ?_
    replace hI := hI.erase 0
    have hPR9 := PutR.step (v := [i]) hs1 (by omega) hPR
    rw [hkr] at hPR9
    exact ⟨(D49, i + 1, P9, _, _, _), hE.pick [0, 7, 8, 10, 11, 12, 13, 9, 14], ⟨by show 1 ≤ i + 1; omega, by show i + 1 ≤ n + 2; omega, (((((hDb.trans hD29).trans hD32).trans hD37).trans hD43).trans hD52), hPH9, hPR9, by show 4 ≤ lsn + _; omega, by show lsn + (b9.recs.length : Nat) ≤ 4 + 200000 * (r : Int) + 601 * ((i + 1 : Nat) : Int); omega, hP53, hI⟩, by show n + 2 - (i + 1) < n + 2 - i; omega⟩
   exfalso
   rw [hlaid9] at hla55; cases hla55
  intro hle; replace hle := leq_f hle; clear hE a; intro a hE
  refine wnt ?_
  refine c_false hE rfl ?_
  refine wp_exit ?_
  refine then_exit ?_
  refine then_exit ?_
  refine blk_same ?_
  refine then_normal ?_
  refine wp_seq ?_
  refine wp_seq ?_
  have hi9 : i = n + 2 := by omega
  subst hi9
  have hkl9 := hPR.1
  refine wp_region_list ?_
  refine zm hE ?_; clear hE a; intro a hE
  obtain ⟨px56, n56, hp56, hlv56, hn556, hchk56⟩ := check_okA hPH.2
  obtain ⟨c56, hw56, hch56, hk56, y56, v56, u56, ff56, fr56, hrest56⟩ := hchk56 6 (by omega)
  refine l_step rfl (o_call hE rfl rfl rfl rfl ent_45 (CheckA_spec (f := 6) hI hP1 (hS.mono (((((hD2.trans hD9).trans hDk15).trans hDk21).trans hDa).trans hDb)) hp56 (by omega) (fun c hc _ => by rw [hw56] at hc; injection hc with hc; subst hc; exact ⟨_, _, _, _, _, hrest56⟩)) ?_)
  clear hI hE a
  rintro r w h a hE; rcases h with ⟨c8, hr8, hch8, rfl, D57, sp58, hD59, hP60, hI⟩ | ⟨c8, hr8, hch8, rfl, _⟩ | ⟨c8, o8, hr8, rfl, _⟩
  ·skip
   rw [hw56] at hr8; injection hr8 with hr8; subst hr8; rw [hk56] at hE
   refine zm hE ?_; clear hE a; intro a hE
   refine zx hE ?_; clear hE a; intro a hE
   refine zx hE ?_; clear hE a; intro a hE
   refine za hE ?_; clear hE a; intro a hE
   refine za hE ?_; clear hE a; intro a hE
   refine wnt ?_
   refine wsr ?_
   refine zm hE ?_; clear hE a; intro a hE
   refine zs hE (p_ifaceNil Tryd.underlying25 rfl rfl rfl) ?_; clear hE a; intro a hE
   refine zm hE ?_; clear hE a; intro a hE
   refine gs hE (p_move rfl) ?_; clear hE a; intro a hE
   refine gs hE (p_move rfl) ?_; clear hE a; intro a hE
   refine gs hE (p_cmp rfl rfl (neq_n (by omega))) ?_; clear hE a; intro a hE
   refine zs hE (p_pick (b := false) rfl rfl) ?_; clear hE a; intro a hE
   refine wnt ?_
   refine c_false hE rfl ?_
   refine wp_skip ?_
   refine then_normal ?_
   refine wsr ?_
   refine za hE ?_; clear hE a; intro a hE
   refine wnt ?_
   refine wp_seq ?_
   refine wsr ?_
   refine za hE ?_; clear hE a; intro a hE
   refine wnt ?_
   refine wp_block ?_
   refine c_loop (X := Sto × Nat × Pl × Int × Ens × Nat × Seg) (fun y => [(0, _), (7, _), (8, _), (10, _), (11, _), (12, _), (13, _), (9, .int .i64 y.2.2.2.1), (21, .int .i64 (y.2.2.2.2.2.1 : Nat)), (22, .int .i64 (y.2.1 : Nat))]) (fun y w => 1 ≤ y.2.1 ∧ y.2.1 ≤ 211 ∧ Le D57 y.1 ∧ PHoldsA y.2.2.1 y.2.2.2.1 (201 * r + 201) y.2.2.2.2.1 ∧ DelR s2 (n + 1) y.2.1 y.2.2.2.2.2.1 y.2.2.2.2.1 ∧ 4 ≤ y.2.2.2.1 ∧ y.2.2.2.1 ≤ 4 + 200000 * (r : Int) + 120801 + 27 * (y.2.1 : Nat) ∧ PoolS y.1 (.pointer (some ⟨q8, 0, none⟩)) y.2.2.1 y.2.2.2.2.2.2 ∧ Inv w0 y.1 (y.2.2.2.2.2.2 :: ss) w) (fun y => 211 - y.2.1) (D57, 1, P, lsn, kv, 0, sp58) (hE.pick [0, 7, 8, 10, 11, 12, 13, 9, 21, 22]) ⟨Nat.le_refl _, by show 1 ≤ 211; omega, Le.refl _, ⟨hPH.1, hPH.2.mono (by omega)⟩, DelR.start hs1 (by omega) hPR, hl2, by show lsn ≤ 4 + 200000 * (r : Int) + 120801 + 27 * ((1 : Nat) : Int); omega, hP60, hI⟩ ?_
   clear hE hI a w
   rintro ⟨Dc, i, P, lsn, kv, gone, sp⟩ a w hE ⟨hi1, hi2, hDc, hPH, hDR, hl2, hl3, hP1, hI⟩
   try dsimp only at hE
   try dsimp only at hi1
   try dsimp only at hi2
   try dsimp only at hDc
   try dsimp only at hPH
   try dsimp only at hDR
   try dsimp only at hl2
   try dsimp only at hl3
   try dsimp only at hP1
   try dsimp only at hI
   refine wp_seq ?_
   refine wsr ?_
   refine zm hE ?_; clear hE a; intro a hE
   refine zm hE ?_; clear hE a; intro a hE
   refine l_step rfl (o_cmp hE rfl rfl rfl rfl rfl rfl ?_ ?_)
   ·intro hlt; replace hlt := lss_t hlt; clear hE a; intro a hE
    refine wnt ?_
    refine c_true hE rfl ?_
    refine wp_skip ?_
    refine then_normal ?_
    refine wp_seq ?_
    refine wp_block ?_
    refine wp_seq ?_
    obtain ⟨t9, ht9⟩ : ∃ t, t = i * mulS s2 := ⟨_, rfl⟩
    have hml9 := mulS_le s2
    have ht9b : t9 ≤ 211 * 13 := by rw [ht9]; exact Nat.mul_le_mul (by omega) hml9.2
    have hkr : keyR s2 i = [t9 % 211, 1] := by rw [keyR, ht9]
    refine wp_region_list ?_
    refine zm hE ?_; clear hE a; intro a hE
    refine zm hE ?_; clear hE a; intro a hE
    refine zs hE (p_arith (z := ((t9 : Nat) : Int)) rfl rfl (mul_z (by rw [ht9]; exact (Int.natCast_mul _ _).symm) (by omega) (by omega))) ?_; clear hE a; intro a hE
    refine zm hE ?_; clear hE a; intro a hE
    refine zs hE (p_arith (z := ((t9 % 211 : Nat) : Int)) rfl rfl (rem_z rfl (by decide))) ?_; clear hE a; intro a hE
    refine za hE ?_; clear hE a; intro a hE
    refine wnt ?_
    refine wsr ?_
    refine zm hE ?_; clear hE a; intro a hE
    refine l_step rfl (o_call hE rfl rfl rfl rfl ent_33 (New_spec hI P (some ⟨q8, 0, none⟩)) ?_)
    clear hI hE a
    rintro r w ⟨sb61, hB62, hI⟩ a hE
    obtain ⟨bb63, hvb⟩ := BatchS.ptr hB62
    subst hvb
    refine za hE ?_; clear hE a; intro a hE
    refine wnt ?_
    refine wsr ?_
    refine zm hE ?_; clear hE a; intro a hE
    refine zm hE ?_; clear hE a; intro a hE
    refine zs hE (p_int (z := ((t9 % 211 : Nat) : Int)) Tryd.underlying3 Tryd.underlying5 rfl (by rw [u8_z]; omega)) ?_; clear hE a; intro a hE
    refine l_step rfl (f_lit (vs := [(0, _), (1, _)]) (l := [_, _]) hE hI rfl rfl rfl rfl Tryd.underlying22 zs_5 rfl rfl rfl ?_)
    clear hI hE a w; intro a b64 w hE hI
    obtain ⟨D65, hD66, hIa, hb67⟩ := lit_two (n := t9 % 211) (m := 1) 0 hI (by omega) (by omega) rfl
    replace hI := hIa
    clear hIa
    try simp only [nrm, Value.cells] at hI
    obtain ⟨b9, hdel9, hr9, hh9⟩ := hPH.2.delete (key := [t9 % 211, 1]) (AllOk.new hPH.1) (by rw [← hkr]; exact keyR_right _ _)
    have hrl := (Runs.len hr9).1
    have he0 : (newBt P).recs.length = 0 := rfl
    obtain ⟨res9, hres9⟩ : ∃ q, (lookKv kv [t9 % 211, 1]).isSome = q := ⟨_, rfl⟩
    rw [hres9] at hdel9
    have hrb9 : res9 = true ↔ (lookKv kv [t9 % 211, 1]).isSome = true := by rw [← hres9]
    refine l_step rfl (o_call hE rfl rfl rfl rfl ent_52 (BDel_ok hI (hS.mono ((((((((hD2.trans hD9).trans hDk15).trans hDk21).trans hDa).trans hDb).trans hD59).trans hDc).trans hD66)) (hB62.mono hD66) (hP1.mono hD66) rfl hb67 (by show (0 : Nat) ≤ _; omega) hdel9) ?_)
    clear hI hE a
    rintro r w ⟨rfl, D68, sb69, sp70, hD71, hB72, hP73, hI⟩ a hE
    refine zm hE ?_; clear hE a; intro a hE
    refine zx hE ?_; clear hE a; intro a hE
    refine zx hE ?_; clear hE a; intro a hE
    refine za hE ?_; clear hE a; intro a hE
    refine za hE ?_; clear hE a; intro a hE
    refine wnt ?_
    refine wp_seq ?_
    refine wsr ?_
    refine zm hE ?_; clear hE a; intro a hE
    refine zs hE (p_ifaceNil Tryd.underlying25 rfl rfl rfl) ?_; clear hE a; intro a hE
    refine wnt ?_
    refine c_false hE rfl ?_
    refine wp_skip ?_
    refine then_normal ?_
    refine c_cutE (X := Nat) [0, 7, 8, 9, 10, 11, 12, 13, 22, 24] (fun x => [(21, .int .i64 (x : Nat))]) (fun x w => x = (if (lookKv kv [t9 % 211, 1]).isSome = true then gone + 1 else gone) ∧ Inv w0 D68 (sb69 :: sp70 :: ss) w) hE ?_ ?_
    ·skip
     refine wp_seq ?_
     have hg0 := hDR.1
     refine wp_region_list ?_
     refine zm hE ?_; clear hE a; intro a hE
     refine wnt ?_
     rcases Bool.eq_false_or_eq_true res9 with rfl | rfl
     ·replace hrb9 := iff_t hrb9
      have hrs : (lookKv kv [t9 % 211, 1]).isSome = true := hrb9
      refine c_true hE rfl ?_
      refine wp_region_list ?_
      refine zm hE ?_; clear hE a; intro a hE
      refine zs hE (p_arith (z := ((gone + 1 : Nat) : Int)) rfl rfl (add_z (by omega) (by omega) (by omega))) ?_; clear hE a; intro a hE
      refine za hE ?_; clear hE a; intro a hE
      refine wnt ?_
      exact ⟨(gone + 1), hE.pick [21, 0, 7, 8, 9, 10, 11, 12, 13, 22, 24], ⟨(if_pos hrs).symm, hI⟩⟩
     replace hrb9 := iff_f hrb9
     have hrs : ¬ (lookKv kv [t9 % 211, 1]).isSome = true := by simpa using hrb9
     refine c_false hE rfl ?_
     refine wp_skip ?_
     refine then_normal ?_
     exact ⟨gone, hE.pick [21, 0, 7, 8, 9, 10, 11, 12, 13, 22, 24], ⟨(if_neg hrs).symm, hI⟩⟩
    clear hE hI a w; rintro z9 a w hE ⟨hz9, hI⟩
    try dsimp only at hE
    try dsimp only at hz9
    try dsimp only at hI
    replace hE : EnvOk 157 [(21, _), (0, _), (7, _), (8, _), (9, _), (10, _), (11, _), (12, _), (13, _), (22, _), (24, _)] a := hE
    subst hz9
    refine wsr ?_
    refine zm hE ?_; clear hE a; intro a hE
    refine zm hE ?_; clear hE a; intro a hE
    refine l_step rfl (o_call hE rfl rfl rfl rfl ent_37 (Redo_ok hI (hS.mono (((((((((hD2.trans hD9).trans hDk15).trans hDk21).trans hDa).trans hDb).trans hD59).trans hDc).trans hD66).trans hD71)) hB72 hP73 ((Runs.len hr9).2) (by omega)) ?_)
    clear hI hE a
    rintro r w ⟨D74, sb75, sp76, hD77, hL78, hB79, hP80, hI⟩ a hE
    obtain ⟨A81, c82, rfl, _⟩ := hL78.slice
    refine zm hE ?_; clear hE a; intro a hE
    obtain ⟨_, P9, hlaid9, hPH9⟩ := laid_holdsA hPH.1 (by omega) hr9 (by omega) hh9
    refine l_step rfl (o_call hE rfl rfl rfl rfl ent_36 (laid_spec (hI.bring 1) hP80 (hS.mono ((((((((((hD2.trans hD9).trans hDk15).trans hDk21).trans hDa).trans hDb).trans hD59).trans hDc).trans hD66).trans hD71).trans hD77)) hL78 (n := lsn) (by omega) (by omega) (by omega)) ?_)
    clear hI hE a
    rintro r w h a hE; rcases h with ⟨D83, s84, P85, hD86, hP87, hI, ⟨m88, hla89, rfl⟩ | ⟨hla89, m88, rfl⟩⟩
    ·skip
     replace hI := hI.put_back 1
     try simp only [nrm, Value.cells] at hI
     rw [hlaid9] at hla89
     injection hla89 with hla89
     injection hla89 with hz1 hz2
     subst hz1
     subst hz2
     refine zm hE ?_; clear hE a; intro a hE
     refine zx hE ?_; clear hE a; intro a hE
     refine zx hE ?_; clear hE a; intro a hE
     refine za hE ?_; clear hE a; intro a hE
     refine za hE ?_; clear hE a; intro a hE
     refine wnt ?_
     refine wp_seq ?_
     refine wsr ?_
     refine zm hE ?_; clear hE a; intro a hE
     refine zs hE (p_not rfl) ?_; clear hE a; intro a hE
     refine wnt ?_
     refine c_false hE rfl ?_
     refine wp_skip ?_
     refine then_normal ?_
     refine wp_region_list ?_
     refine zm hE ?_; clear hE a; intro a hE
     refine za hE ?_; clear hE a; intro a hE
     refine wpList_nil ?_
     refine blk_normal ?_
     refine then_normal ?_
     refine wp_region_list ?_
     refine zm hE ?_; clear hE a; intro a hE
     refine zs hE (p_arith (z := ((i + 1 : Nat) : Int)) rfl rfl (add_z (by omega) (by omega) (by omega))) ?_; clear hE a; intro a hE
     refine za hE ?_; clear hE a; intro a hE
     refine wnt ?_
     replace hI := hI.erase 0
     have hDR9 := DelR.step (i := i) hPH.2.sorted hDR
     rw [hkr] at hDR9
     exact ⟨(D83, i + 1, P9, _, _, _, _), hE.pick [0, 7, 8, 10, 11, 12, 13, 9, 21, 22], ⟨by show 1 ≤ i + 1; omega, by show i + 1 ≤ 211; omega, ((((hDc.trans hD66).trans hD71).trans hD77).trans hD86), hPH9, hDR9, by show 4 ≤ lsn + _; omega, by show lsn + (b9.recs.length : Nat) ≤ 4 + 200000 * (r : Int) + 120801 + 27 * ((i + 1 : Nat) : Int); omega, hP87, hI⟩, by show 211 - (i + 1) < 211 - i; omega⟩
    exfalso
    rw [hlaid9] at hla89; cases hla89
   intro hlt; replace hlt := lss_f hlt; clear hE a; intro a hE
   refine wnt ?_
   refine c_false hE rfl ?_
   refine wp_exit ?_
   refine then_exit ?_
   refine then_exit ?_
   refine blk_same ?_
   refine then_normal ?_
   refine wp_seq ?_
   refine wp_seq ?_
   have hi9 : i = 211 := by omega
   subst hi9
   obtain ⟨rfl, rfl⟩ := DelR.end_ hs2 hDR
   refine wp_region_list ?_
   refine zm hE ?_; clear hE a; intro a hE
   refine zm hE ?_; clear hE a; intro a hE
   refine zs hE (p_cmp rfl rfl (neq_n (by omega))) ?_; clear hE a; intro a hE
   refine wnt ?_
   refine c_false hE rfl ?_
   refine wp_skip ?_
   refine then_normal ?_
   refine wsr ?_
   refine zm hE ?_; clear hE a; intro a hE
   obtain ⟨px90, n90, hp90, hlv90, hn590, hchk90⟩ := check_okA hPH.2
   obtain ⟨c90, hw90, hch90, hk90, y90, v90, u90, ff90, fr90, hrest90⟩ := hchk90 6 (by omega)
   refine l_step rfl (o_call hE rfl rfl rfl rfl ent_45 (CheckA_spec (f := 6) hI hP1 (hS.mono (((((((hD2.trans hD9).trans hDk15).trans hDk21).trans hDa).trans hDb).trans hD59).trans hDc)) hp90 (by omega) (fun c hc _ => by rw [hw90] at hc; injection hc with hc; subst hc; exact ⟨_, _, _, _, _, hrest90⟩)) ?_)
   clear hI hE a
   rintro r w h a hE; rcases h with ⟨c8, hr8, hch8, rfl, D91, sp92, hD93, hP94, hI⟩ | ⟨c8, hr8, hch8, rfl, _⟩ | ⟨c8, o8, hr8, rfl, _⟩
   ·skip
    rw [hw90] at hr8; injection hr8 with hr8; subst hr8; rw [hk90] at hE
    refine zm hE ?_; clear hE a; intro a hE
    refine zx hE ?_; clear hE a; intro a hE
    refine zx hE ?_; clear hE a; intro a hE
    refine za hE ?_; clear hE a; intro a hE
    refine za hE ?_; clear hE a; intro a hE
    refine wnt ?_
    refine wsr ?_
    refine zm hE ?_; clear hE a; intro a hE
    refine zs hE (p_ifaceNil Tryd.underlying25 rfl rfl rfl) ?_; clear hE a; intro a hE
    refine zm hE ?_; clear hE a; intro a hE
    refine gs hE (p_move rfl) ?_; clear hE a; intro a hE
    refine gs hE (p_cmp rfl rfl (neq_n (by simp))) ?_; clear hE a; intro a hE
    refine zs hE (p_pick (b := false) rfl rfl) ?_; clear hE a; intro a hE
    refine wnt ?_
    refine c_false hE rfl ?_
    refine wp_skip ?_
    refine blk_normal ?_
    refine then_normal ?_
    refine wp_region_list ?_
    refine zm hE ?_; clear hE a; intro a hE
    refine zs hE (p_arith (z := ((r + 1 : Nat) : Int)) rfl rfl (add_z (by omega) (by omega) (by omega))) ?_; clear hE a; intro a hE
    refine za hE ?_; clear hE a; intro a hE
    refine wnt ?_
    exact ⟨(D91, r + 1, P, lsn, _), hE.pick [0, 7, 8, 10, 11, 12, 9, 13], ⟨by show r + 1 ≤ 2; omega, ((((hDa.trans hDb).trans hD59).trans hDc).trans hD93), hPH, hl2, by show lsn ≤ 4 + 200000 * ((r + 1 : Nat) : Int); omega, hP94, hI⟩, by show 2 - (r + 1) < 2 - r; omega⟩
   ·skip
    exfalso
    first | (rw [hw90] at hr8; injection hr8 with hr8; subst hr8; rw [hch90] at hch8; cases hch8) | (rw [hw90] at hr8; cases hr8)
   exfalso
   first | (rw [hw90] at hr8; injection hr8 with hr8; subst hr8; rw [hch90] at hch8; cases hch8) | (rw [hw90] at hr8; cases hr8)
  ·skip
   exfalso
   first | (rw [hw56] at hr8; injection hr8 with hr8; subst hr8; rw [hch56] at hch8; cases hch8) | (rw [hw56] at hr8; cases hr8)
  exfalso
  first | (rw [hw56] at hr8; injection hr8 with hr8; subst hr8; rw [hch56] at hch8; cases hch8) | (rw [hw56] at hr8; cases hr8)
 intro hlr; replace hlr := lss_f hlr; clear hE a; intro a hE
 refine wnt ?_
 refine c_false hE rfl ?_
 refine wp_exit ?_
 refine then_exit ?_
 refine then_exit ?_
 refine blk_same ?_
 refine then_normal ?_
 refine wsr ?_
 refine zm hE ?_; clear hE a; intro a hE
 refine zm hE ?_; clear hE a; intro a hE
 refine gs hE (p_move rfl) ?_; clear hE a; intro a hE
 have hn256 := PoolS.n_le hP1 hPH.1
 refine l_go hE rfl (o_call hE rfl rfl rfl rfl ent_51 (Len_spec hI hP1) ?_)
 clear hI hE a
 rintro r w ⟨rfl, hI⟩ a hE
 refine gs hE (p_cmp rfl rfl (leq_y (by omega))) ?_; clear hE a; intro a hE
 refine zs hE (p_pick (b := true) rfl rfl) ?_; clear hE a; intro a hE
 refine za hE ?_; clear hE a; intro a hE
 refine wnt ?_
 refine wp_ret ?_
 refine ret1 rfl hE rfl ?_
 exact ⟨rfl, _, ((((hD2.trans hD9).trans hDk15).trans hDk21).trans hDa), hI.drop⟩
end Go.Proofs.YtbogbnkckofpdaaDoor.B
