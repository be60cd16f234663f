/- What functions of the program compute, each function once: steps over the model, and the plain law of it. -/
import Derived.Test.YtbogbnkckofpdaaDoorTCheck
namespace Go.Proofs.YtbogbnkckofpdaaDoor.B
open Go Go.Proofs
set_option linter.unusedVariables false
set_option linter.unusedSimpArgs false
set_option maxRecDepth 20000
set_option maxHeartbeats 8000000
namespace FTFirst
theorem ent_32 : enters Tryd.prog 32 = true := by kernel_rfl
theorem ent_33 : enters Tryd.prog 33 = true := by kernel_rfl
theorem ent_34 : enters Tryd.prog 34 = true := by kernel_rfl
theorem ent_35 : enters Tryd.prog 35 = true := by kernel_rfl
theorem ent_36 : enters Tryd.prog 36 = true := by kernel_rfl
theorem ent_48 : enters Tryd.prog 48 = true := by kernel_rfl
theorem ent_68 : enters Tryd.prog 68 = true := by kernel_rfl
theorem scal_5 : isScal Tryd.prog 5 = true := by kernel_rfl
theorem sz_5 : (Tryd.prog.info? 5).map (·.size) = some 1 := by kernel_rfl
theorem zs_5 : (Tryd.prog.info? 5).map (fun i => (i.zero, i.size)) = some (some (.int .u8 0), 1) := by kernel_rfl
end FTFirst
open FTFirst
theorem lit_data {w0 w : World} {D : Sto} {ss : List Seg} {b T : Nat} {fr : Nat × Nat} (bs : List Nat) (i : Nat) (hI : Inv w0 D ss w) (hi : ss[i]? = some [(b, .cells (bytesV bs).toArray T fr)]) (hb : ∀ x ∈ bs, x < 256) :
  ∃ D', Le D D' ∧ Inv w0 D' (ss.eraseIdx i) w ∧ RB D' (.slice (some ⟨b, 0, none⟩) bs.length bs.length) bs := by
 obtain ⟨h1, h2⟩ := hI.shut_at i hi
 exact ⟨_, h2, h1, RB.lit hb⟩
theorem Inv.part {w0 w : World} {D : Sto} {ss : List Seg} {s1 s2 : Seg} (h : Inv w0 D ((s1 ++ s2) :: ss) w) : Inv w0 D (s1 :: s2 :: ss) w := h.perm (List.Perm.of_eq (by simp))
theorem empty_spec {w0 w : World} {D : Sto} {ss : List Seg} (hI : Inv w0 D ss w) {ad : Nat → Addr} (hS : TSents D ad) :
  Calls Tryd.prog 32 #[] w (Ret fun r w' => ∃ D' s q, Le D D' ∧ r = .tuple #[.pointer (some ⟨q, 0, none⟩), .int .i64 4] ∧ PoolS D' (.pointer (some ⟨q, 0, none⟩)) E0 s ∧ Inv w0 D' (s :: ss) w') := by
 refine enter (N := 18) Tryd.func32 rfl rfl rfl ?_
 intro a hE
 refine wsr ?_
 refine za hE ?_; clear hE a; intro a hE
 refine za hE ?_; clear hE a; intro a hE
 refine wnt ?_
 refine wsr ?_
 refine l_step rfl (o_call hE rfl rfl rfl rfl ent_68 (PoolNew_spec hI) ?_)
 clear hI hE a
 rintro r w ⟨s1, hP2, hI⟩ a hE
 obtain ⟨bp3, hbp⟩ := hP2.ptr
 subst hbp
 refine za hE ?_; clear hE a; intro a hE
 refine wnt ?_
 refine wp_seq ?_
 refine wsr ?_
 refine zm hE ?_; clear hE a; intro a hE
 refine zs hE (p_eq rfl rfl (g_none rfl) (e_ptrNil Tryd.underlying52 rfl) rfl rfl) ?_; clear hE a; intro a hE
 refine wnt ?_
 refine c_false hE rfl ?_
 refine wp_skip ?_
 refine then_normal ?_
 refine wsr ?_
 refine zm hE ?_; clear hE a; intro a hE
 refine l_step rfl (o_call hE rfl rfl rfl rfl ent_48 (Make_spec hI) ?_)
 clear hI hE a
 rintro r w ⟨D4, hD5, hI, hL6⟩ a hE
 obtain ⟨A7, c8, rfl, _⟩ := hL6.slice
 refine l_step rfl (o_call hE rfl rfl rfl rfl ent_36 (laid_spec hI (hP2.mono hD5) (hS.mono hD5) hL6 (n := 1) (by omega) (by omega) (by show (3 : Nat) ≤ _; omega)) ?_)
 clear hI hE a
 rintro r w h a hE; rcases h with ⟨D9, s10, P11, hD12, hP13, hI, ⟨m14, hla15, rfl⟩ | ⟨hla15, m14, rfl⟩⟩
 ·skip
  rw [E0_laid] at hla15
  injection hla15 with hla15
  injection hla15 with hz1 hz2
  subst hz1
  subst hz2
  refine zm hE ?_; clear hE a; intro a hE
  refine zx hE ?_; clear hE a; intro a hE
  refine zx hE ?_; clear hE a; intro a hE
  refine za hE ?_; clear hE a; intro a hE
  refine za hE ?_; clear hE a; intro a hE
  refine wnt ?_
  refine wp_seq ?_
  refine wsr ?_
  refine zm hE ?_; clear hE a; intro a hE
  refine zs hE (p_not rfl) ?_; clear hE a; intro a hE
  refine wnt ?_
  refine c_false hE rfl ?_
  refine wp_skip ?_
  refine then_normal ?_
  refine wsr ?_
  refine zm hE ?_; clear hE a; intro a hE
  refine zm hE ?_; clear hE a; intro a hE
  refine za hE ?_; clear hE a; intro a hE
  refine za hE ?_; clear hE a; intro a hE
  refine wnt ?_
  refine wp_ret ?_
  refine ret2 rfl hE rfl rfl ?_
  exact ⟨_, _, _, (hD5.trans hD12), rfl, hP13, hI⟩
 exfalso
 rw [E0_laid] at hla15; cases hla15
theorem first21_spec {w0 w : World} {D : Sto} {ss : List Seg} (hI : Inv w0 D ss w) {ad : Nat → Addr} (hS : TSents D ad) :
  Calls Tryd.prog 30 #[] w (Ret fun r w' => ∃ D', Le D D' ∧ Inv w0 D' ss w' ∧ r = .bool true) := by
 refine enter (N := 47) Tryd.func30 rfl rfl rfl ?_
 intro a hE
 refine wsr ?_
 refine za hE ?_; clear hE a; intro a hE
 refine wnt ?_
 refine wsr ?_
 refine l_step rfl (o_call hE rfl rfl rfl rfl ent_32 (empty_spec hI hS) ?_)
 clear hI hE a
 rintro r w ⟨D1, s2, q3, hD4, rfl, hP5, hI⟩ a hE
 refine zm hE ?_; clear hE a; intro a hE
 refine zx hE ?_; clear hE a; intro a hE
 refine zx hE ?_; clear hE a; intro a hE
 refine za hE ?_; clear hE a; intro a hE
 refine za hE ?_; clear hE a; intro a hE
 refine wnt ?_
 refine wp_seq ?_
 refine wsr ?_
 refine zm hE ?_; clear hE a; intro a hE
 refine zs hE (p_eq rfl rfl (g_none rfl) (e_ptrNil Tryd.underlying52 rfl) rfl rfl) ?_; clear hE a; intro a hE
 refine wnt ?_
 refine c_false hE rfl ?_
 refine wp_skip ?_
 refine then_normal ?_
 refine wsr ?_
 refine zm hE ?_; clear hE a; intro a hE
 refine l_step rfl (o_call hE rfl rfl rfl rfl ent_33 (New_spec hI E0 (some ⟨q3, 0, none⟩)) ?_)
 clear hI hE a
 rintro r w ⟨sb6, hB7, hI⟩ a hE
 obtain ⟨bb8, hvb⟩ := BatchS.ptr hB7
 subst hvb
 refine za hE ?_; clear hE a; intro a hE
 refine wnt ?_
 refine wp_seq ?_
 refine wp_seq ?_
 replace hI := hI.bring 1
 replace hI := hI.bring 1
 replace hI := hI.merge
 have hT9 := TreeS.join hB7 hP5 rfl
 refine wp_region_list ?_
 refine zm hE ?_; clear hE a; intro a hE
 refine zs hE (p_eq rfl rfl (g_none rfl) (e_ptrNil Tryd.underlying55 rfl) rfl rfl) ?_; clear hE a; intro a hE
 refine zm hE ?_; clear hE a; intro a hE
 refine gs hE (p_move rfl) ?_; clear hE a; intro a hE
 refine l_go hE rfl (f_lit (vs := [(0, _)]) (l := [_]) hE hI rfl rfl rfl rfl Tryd.underlying22 zs_5 rfl rfl rfl ?_)
 clear hI hE a w; intro a b10 w hE hI
 refine l_go hE rfl (f_lit (vs := [(0, _)]) (l := [_]) hE hI rfl rfl rfl rfl Tryd.underlying22 zs_5 rfl rfl rfl ?_)
 clear hI hE a w; intro a b11 w hE hI
 obtain ⟨D12, hD13, hIa, hb14⟩ := lit_data [1] 1 hI rfl (by simp)
 replace hI := hIa
 clear hIa
 try simp only [nrm, Value.cells] at hI
 obtain ⟨D15, hD16, hIa, hb17⟩ := lit_data [2] 0 hI rfl (by simp)
 replace hI := hIa
 clear hIa
 try simp only [nrm, Value.cells] at hI
 obtain ⟨b9, hb9, hg9⟩ := first_put
 refine l_go hE rfl (o_call hE rfl rfl rfl rfl ent_34 (BPut_spec (key := [1]) (val := [2]) hI (hS.mono ((hD4.trans hD13).trans hD16)) (hT9.mono (hD13.trans hD16)) (hb14.mono hD16) hb17 (by show (0 : Nat) ≤ _; omega)) ?_)
 clear hI hE a
 rintro r w h a hE; rcases h with ⟨b18, hx19, rfl, D20, s21, hD22, hT23, hI⟩ | ⟨c24, o25, hbad, rfl, D26, s27, hD28, hT29, hI⟩
 ·skip
  rw [hb9] at hx19
  injection hx19 with hx19
  subst hx19
  refine gs hE (p_ifaceNil Tryd.underlying25 rfl rfl rfl) ?_; clear hE a; intro a hE
  refine zs hE (p_pick (b := false) rfl rfl) ?_; clear hE a; intro a hE
  refine wnt ?_
  refine c_false hE rfl ?_
  refine wp_skip ?_
  refine then_normal ?_
  refine wsr ?_
  refine zm hE ?_; clear hE a; intro a hE
  refine l_step rfl (f_lit (vs := [(0, _)]) (l := [_]) hE hI rfl rfl rfl rfl Tryd.underlying22 zs_5 rfl rfl rfl ?_)
  clear hI hE a w; intro a b30 w hE hI
  obtain ⟨D31, hD32, hIa, hb33⟩ := lit_data [1] 0 hI rfl (by simp)
  replace hI := hIa
  clear hIa
  try simp only [nrm, Value.cells] at hI
  refine l_step rfl (o_call hE rfl rfl rfl rfl ent_35 (BGet_spec (key := [1]) hI (hS.mono ((((hD4.trans hD13).trans hD16).trans hD22).trans hD32)) (hT23.mono hD32) hb33) ?_)
  clear hI hE a
  rintro r w h a hE; rcases h with ⟨res34, hx35, D36, vr37, hD38, rfl, hr39, hT40, hI⟩ | ⟨c41, o42, hbad, rfl, D43, s44, hD45, hT46, hI⟩
  ·skip
   rw [hg9] at hx35
   injection hx35 with hx35
   subst hx35
   replace hr39 : RB D36 vr37 [2] := hr39
   have hl2 : ([2] : List Nat).length = 1 := rfl
   obtain ⟨A47, c48, rfl, _⟩ := hr39.slice
   refine zm hE ?_; clear hE a; intro a hE
   refine zx hE ?_; clear hE a; intro a hE
   refine zx hE ?_; clear hE a; intro a hE
   refine zx hE ?_; clear hE a; intro a hE
   refine za hE ?_; clear hE a; intro a hE
   refine za hE ?_; clear hE a; intro a hE
   refine za hE ?_; clear hE a; intro a hE
   refine wnt ?_
   refine wsr ?_
   refine zm hE ?_; clear hE a; intro a hE
   refine zm hE ?_; clear hE a; intro a hE
   refine gs hE (p_move rfl) ?_; clear hE a; intro a hE
   refine gs hE (p_ifaceNil Tryd.underlying25 rfl rfl rfl) ?_; clear hE a; intro a hE
   refine zs hE (p_pick (b := true) rfl rfl) ?_; clear hE a; intro a hE
   refine zm hE ?_; clear hE a; intro a hE
   refine gs hE (p_move rfl) ?_; clear hE a; intro a hE
   refine gs hE (p_len rfl rfl Tryd.underlying22) ?_; clear hE a; intro a hE
   refine gs hE (p_cmp rfl rfl (eql_y (rfl))) ?_; clear hE a; intro a hE
   refine zs hE (p_pick (b := true) rfl rfl) ?_; clear hE a; intro a hE
   refine zm hE ?_; clear hE a; intro a hE
   refine gs hE (p_move rfl) ?_; clear hE a; intro a hE
   obtain ⟨b_49, o_49, cs_49, T_49, fr_49, rfl, hb_49, hc_49⟩ := hr39.at_ (by simp)
   refine gs hE (p_indexAddr rfl rfl Tryd.underlying22 sz_5 (by omega) (by show (0 : Int) < ((1 : Nat) : Int); omega) rfl) ?_; clear hE a; intro a hE
   refine gl hE (r_load rfl scal_5 (hI.data _ _ (hb_49)) (RB.cell hc_49 (by omega) (by omega))) ?_; clear hE a; intro a hE
   refine gs hE (p_cmp rfl rfl (eql_y (rfl))) ?_; clear hE a; intro a hE
   refine zs hE (p_pick (b := true) rfl rfl) ?_; clear hE a; intro a hE
   refine za hE ?_; clear hE a; intro a hE
   refine wnt ?_
   refine wp_ret ?_
   refine ret1 rfl hE rfl ?_
   exact ⟨_, (((((hD4.trans hD13).trans hD16).trans hD22).trans hD32).trans hD38), hI.drop, rfl⟩
  exfalso
  rw [hg9] at hbad; cases hbad
 exfalso
 rw [hb9] at hbad; cases hbad
end Go.Proofs.YtbogbnkckofpdaaDoor.B
