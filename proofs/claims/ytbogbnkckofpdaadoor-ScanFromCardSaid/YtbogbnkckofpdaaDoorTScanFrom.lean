/- What functions of the program compute, each function once: steps over the model, and the plain law of it. -/
import Derived.Test.YtbogbnkckofpdaaDoorTMade2
namespace Go.Proofs.YtbogbnkckofpdaaDoor.B
open Go Go.Proofs
set_option linter.unusedVariables false
set_option linter.unusedSimpArgs false
set_option maxRecDepth 20000
set_option maxHeartbeats 8000000
namespace FTScanFrom
theorem ent_20 : enters Tryd.prog 20 = true := by kernel_rfl
theorem ent_31 : enters Tryd.prog 31 = true := by kernel_rfl
theorem ent_38 : enters Tryd.prog 38 = true := by kernel_rfl
theorem ent_39 : enters Tryd.prog 39 = true := by kernel_rfl
theorem ent_40 : enters Tryd.prog 40 = true := by kernel_rfl
theorem fo_69_0 : fieldOff Tryd.prog 69 0 = some 0 := by kernel_rfl
theorem scal_22 : isScal Tryd.prog 22 = true := by kernel_rfl
theorem sz_69 : (Tryd.prog.info? 69).map (·.size) = some 2 := by kernel_rfl
end FTScanFrom
open FTScanFrom
theorem toldTo_nil (k : Bs) : toldTo [] k = true := by simp [toldTo]
theorem done_len {kv : Ens} {s n : Nat} (hs : s ≤ kv.length) (h : Done kv s (toldTo []) n) : n = kv.length - s := by
  rcases Nat.lt_or_ge (s + n) kv.length with h1 | h1
  · exact absurd (toldTo_nil _) (h.2 _ (List.getElem?_eq_getElem h1))
  · rcases Nat.lt_or_ge (kv.length - s) n with h2 | h2
    · obtain ⟨x, hx, _⟩ := h.1 (kv.length - s) h2
      have := (List.getElem?_eq_some_iff.1 hx).1
      omega
    · omega
theorem told_ne {to k : Bs} (h0 : to ≠ []) : toldTo to k = true ↔ ltB k to = true := by simp [toldTo, h0]
theorem done_upto {kv : Ens} (hso : Sorted kv) {k n : Nat} {e : Bs × Bs} (he : kv[k]? = some e) (h0 : e.1 ≠ []) (h : Done kv 0 (toldTo e.1) n) : n = k := by
  have hk := (List.getElem?_eq_some_iff.1 he).1
  rcases Nat.lt_trichotomy n k with h1 | h1 | h1
  · exfalso
    refine h.2 kv[n] (by simp) ((told_ne h0).2 ?_)
    have := List.pairwise_iff_getElem.1 hso n k (by omega) hk h1
    rw [(List.getElem?_eq_some_iff.1 he).2] at this
    exact this
  · exact h1
  · exfalso
    obtain ⟨x, hx, ht⟩ := h.1 k h1
    rw [Nat.zero_add, he] at hx
    injection hx with hx
    subst hx
    rw [told_ne h0, ltB_irrefl] at ht
    cases ht
theorem done_none {kv : Ens} {k n : Nat} {e : Bs × Bs} (he : kv[k]? = some e) (h0 : e.1 ≠ []) (h : Done kv k (toldTo e.1) n) : n = 0 := by
  rcases Nat.eq_zero_or_pos n with h1 | h1
  · exact h1
  · obtain ⟨x, hx, ht⟩ := h.1 0 h1
    rw [Nat.add_zero, he] at hx
    injection hx with hx
    subst hx
    rw [told_ne h0, ltB_irrefl] at ht
    cases ht
theorem first22_spec {w0 w : World} {D : Sto} {ss : List Seg} (hI : Inv w0 D ss w) {ad : Nat → Addr} (hS : TSents D ad) :
    Calls Tryd.prog 38 #[] w (Ret fun r w' => ∃ D', Le D D' ∧ Inv w0 D' ss w' ∧ r = .bool true) := by
  refine enter (N := 22) Tryd.func38 rfl rfl rfl ?_
  intro a hE
  refine wp_seq ?_
  refine wp_region_list ?_   -- region 0
  refine l_step rfl (o_pure hE rfl rfl (p_assign rfl).run ?_); clear hE a; intro a hE
  refine wpList_nil ?_
  refine then_normal ?_
  refine wp_seq ?_
  refine wp_region_list ?_   -- region 1
  refine l_step rfl (o_call hE rfl rfl rfl rfl ent_39 (made_spec (l := ([] : List Bs)) hI hS (DR.nil 1 BsR D) (by simp)) ?_)
  clear hI hE a
  rintro r w ⟨D1, q2, vh3, sp4, P5, hD6, rfl, hP7, hO8, hH9, hI⟩ a hE
  obtain ⟨A10, c11, rfl, _⟩ := hH9.slice
  refine l_step rfl (o_pure hE rfl rfl (p_move rfl).run ?_); clear hE a; intro a hE
  refine l_step rfl (o_pure hE rfl rfl (f_extract rfl rfl).run ?_); clear hE a; intro a hE
  refine l_step rfl (o_pure hE rfl rfl (f_extract rfl rfl).run ?_); clear hE a; intro a hE
  refine l_step rfl (o_pure hE rfl rfl (p_assign rfl).run ?_); clear hE a; intro a hE
  refine l_step rfl (o_pure hE rfl rfl (p_assign rfl).run ?_); clear hE a; intro a hE
  refine wpList_nil ?_
  refine then_normal ?_
  refine wp_seq ?_
  refine wp_seq ?_
  refine wp_region_list ?_   -- region 2
  refine l_step rfl (o_pure hE rfl rfl (p_move rfl).run ?_); clear hE a; intro a hE
  refine l_step rfl (o_pure hE rfl rfl (p_eq rfl rfl (g_none rfl) (e_ptrNil Tryd.underlying52 rfl) rfl rfl).run ?_); clear hE a; intro a hE
  refine wpList_nil ?_
  refine then_normal ?_
  refine c_false hE rfl ?_
  refine wp_skip ?_
  refine then_normal ?_
  refine wp_seq ?_
  refine wp_region_list ?_   -- region 4
  refine l_step rfl (o_pure hE rfl rfl (p_move rfl).run ?_); clear hE a; intro a hE
  refine l_step rfl (o_call hE rfl rfl rfl rfl ent_40 (Count_spec (frm := []) (to := []) (s := 0) hI (hS.mono hD6) hP7 hO8 (RB.nil _) (RB.nil _) (by simp) (by simp) (from_nil _)) ?_)
  clear hI hE a
  rintro r w ⟨n12, D13, sp14, rfl, hdn15, hD16, hP17, hI⟩ a hE
  have hn9 : n12 = 0 := by have := done_len (Nat.zero_le _) hdn15; simpa [madeKv] using this
  subst hn9
  refine l_step rfl (o_pure hE rfl rfl (p_move rfl).run ?_); clear hE a; intro a hE
  refine l_step rfl (o_pure hE rfl rfl (f_extract rfl rfl).run ?_); clear hE a; intro a hE
  refine l_step rfl (o_pure hE rfl rfl (f_extract rfl rfl).run ?_); clear hE a; intro a hE
  refine l_step rfl (o_pure hE rfl rfl (p_assign rfl).run ?_); clear hE a; intro a hE
  refine l_step rfl (o_pure hE rfl rfl (p_assign rfl).run ?_); clear hE a; intro a hE
  refine wpList_nil ?_
  refine then_normal ?_
  refine wp_seq ?_
  refine wp_region_list ?_   -- region 5
  refine l_step rfl (o_pure hE rfl rfl (p_move rfl).run ?_); clear hE a; intro a hE
  refine l_step rfl (o_pure hE rfl rfl (p_cmp rfl rfl (eql_y (rfl))).run ?_); clear hE a; intro a hE
  refine l_step rfl (o_pure hE rfl rfl (p_move rfl).run ?_); clear hE a; intro a hE
  refine l_go hE rfl (o_pure hE rfl rfl (p_move rfl).run ?_); clear hE a; intro a hE
  refine l_go hE rfl (o_pure hE rfl rfl (p_ifaceNil Tryd.underlying25 rfl rfl rfl).run ?_); clear hE a; intro a hE
  refine l_step rfl (o_pure hE rfl rfl (p_pick (b := true) rfl rfl).run ?_); clear hE a; intro a hE
  refine l_step rfl (o_pure hE rfl rfl (p_assign rfl).run ?_); clear hE a; intro a hE
  refine wpList_nil ?_
  refine then_normal ?_
  refine wp_ret ?_
  refine ret1 rfl hE rfl ?_
  exact ⟨_, (hD6.trans hD16), hI.drop, rfl⟩
theorem ScanFrom_spec {w0 w : World} {D : Sto} {ss : List Seg} (hI : Inv w0 D ss w) {ad : Nat → Addr} (hS : TSents D ad) {vl : Value} {l : List Bs} (hl : DR 1 BsR D vl l) (i1 : Int) :
    Calls Tryd.prog 7 #[vl, .int .i64 i1] w (Ret fun r w' => r = .bool true ∧ ∃ D', Le D D' ∧ Inv w0 D' ss w') := by
  obtain ⟨A1, c2, rfl, _⟩ := hl.slice
  refine enter (N := 113) Tryd.func7 rfl rfl rfl ?_
  intro a hE
  refine wp_seq ?_
  refine wp_region_list ?_   -- region 0
  refine l_step rfl (o_pure hE rfl rfl (p_assign rfl).run ?_); clear hE a; intro a hE
  refine wpList_nil ?_
  refine then_normal ?_
  refine wp_seq ?_
  refine wp_region_list ?_   -- region 1
  refine l_step rfl (o_call hE rfl rfl rfl rfl ent_38 (first22_spec hI hS) ?_)
  clear hI hE a
  rintro r w ⟨D3, hD4, hI, rfl⟩ a hE
  refine l_step rfl (o_pure hE rfl rfl (p_assign rfl).run ?_); clear hE a; intro a hE
  refine wpList_nil ?_
  refine then_normal ?_
  refine wp_seq ?_
  refine wp_seq ?_
  refine wp_region_list ?_   -- region 2
  refine l_step rfl (o_pure hE rfl rfl (p_move rfl).run ?_); clear hE a; intro a hE
  refine l_step rfl (o_pure hE rfl rfl (p_not rfl).run ?_); clear hE a; intro a hE
  refine wpList_nil ?_
  refine then_normal ?_
  refine c_false hE rfl ?_
  refine wp_skip ?_
  refine then_normal ?_
  refine wp_seq ?_
  refine wp_seq ?_
  refine wp_region_list ?_   -- region 4
  refine l_step rfl (o_pure hE rfl rfl (p_move rfl).run ?_); clear hE a; intro a hE
  refine l_step rfl (o_call hE rfl rfl rfl rfl ent_31 (Keys_spec (l := l) (most := 100) (long := 32) hI (DR.mono BsR.keeps hl hD4) (by omega)) ?_)
  clear hI hE a
  rintro r w ⟨rfl, hI⟩ a hE
  obtain ⟨bf5, hbf6⟩ : ∃ b, decide ((l.length : Int) ≤ 100 ∧ ∀ k ∈ l, (k.length : Int) ≤ 32) = b := ⟨_, rfl⟩
  rw [hbf6] at hE
  replace hbf6 : bf5 = true ↔ ((l.length : Int) ≤ 100 ∧ ∀ k ∈ l, (k.length : Int) ≤ 32) := by rw [← hbf6]; exact decide_eq_true_iff
  rcases Bool.eq_false_or_eq_true bf5 with rfl | rfl
  · replace hbf6 := iff_t hbf6
    refine l_step rfl (o_pure hE rfl rfl (p_not rfl).run ?_); clear hE a; intro a hE
    refine l_step rfl (o_pure hE rfl rfl (p_move rfl).run ?_); clear hE a; intro a hE
    refine l_go hE rfl (o_pure hE rfl rfl (p_move rfl).run ?_); clear hE a; intro a hE
    refine l_go hE rfl (o_pure hE rfl rfl (p_not rfl).run ?_); clear hE a; intro a hE
    refine l_step rfl (o_pure hE rfl rfl (p_pick (b := false) rfl rfl).run ?_); clear hE a; intro a hE
    refine wpList_nil ?_
    refine then_normal ?_
    refine c_false hE rfl ?_
    refine wp_skip ?_
    refine then_normal ?_
    refine wp_seq ?_
    refine wp_region_list ?_   -- region 6
    refine l_step rfl (o_pure hE rfl rfl (p_move rfl).run ?_); clear hE a; intro a hE
    have hll := (hbf6).1
    refine l_step rfl (o_call hE rfl rfl rfl rfl ent_39 (made_spec (l := l) hI (hS.mono hD4) (DR.mono BsR.keeps hl hD4) (by omega)) ?_)
    clear hI hE a
    rintro r w ⟨D7, q8, vh9, sp10, P11, hD12, rfl, hP13, hO14, hH15, hI⟩ a hE
    obtain ⟨A16, c17, rfl, _⟩ := hH15.slice
    refine l_step rfl (o_pure hE rfl rfl (p_move rfl).run ?_); clear hE a; intro a hE
    refine l_step rfl (o_pure hE rfl rfl (f_extract rfl rfl).run ?_); clear hE a; intro a hE
    refine l_step rfl (o_pure hE rfl rfl (f_extract rfl rfl).run ?_); clear hE a; intro a hE
    refine l_step rfl (o_pure hE rfl rfl (p_assign rfl).run ?_); clear hE a; intro a hE
    refine l_step rfl (o_pure hE rfl rfl (p_assign rfl).run ?_); clear hE a; intro a hE
    refine wpList_nil ?_
    refine then_normal ?_
    refine wp_seq ?_
    refine wp_seq ?_
    have hkl := (made_fine l l.length).len
    refine wp_region_list ?_   -- region 7
    refine l_step rfl (o_pure hE rfl rfl (p_move rfl).run ?_); clear hE a; intro a hE
    refine l_step rfl (o_pure hE rfl rfl (p_eq rfl rfl (g_none rfl) (e_ptrNil Tryd.underlying52 rfl) rfl rfl).run ?_); clear hE a; intro a hE
    refine l_step rfl (o_pure hE rfl rfl (p_move rfl).run ?_); clear hE a; intro a hE
    refine l_go hE rfl (o_pure hE rfl rfl (p_move rfl).run ?_); clear hE a; intro a hE
    refine l_go hE rfl (o_pure hE rfl rfl (p_len rfl rfl Tryd.underlying65).run ?_); clear hE a; intro a hE
    refine l_go hE rfl (o_cmp hE rfl rfl rfl rfl rfl rfl ?_ ?_)
    · intro hz0; replace hz0 := eql_t hz0; clear hE a; intro a hE
      refine l_step rfl (o_pure hE rfl rfl (p_pick (b := false) rfl rfl).run ?_); clear hE a; intro a hE
      refine wpList_nil ?_
      refine then_normal ?_
      refine c_true hE rfl ?_
      refine wp_seq ?_
      refine wp_region_list ?_   -- region 8
      refine l_step rfl (o_pure hE rfl rfl (p_move rfl).run ?_); clear hE a; intro a hE
      refine l_step rfl (o_pure hE rfl rfl (p_eq rfl rfl (g_none rfl) (e_ptrNil Tryd.underlying52 rfl) rfl rfl).run ?_); clear hE a; intro a hE
      refine l_step rfl (o_pure hE rfl rfl (p_assign rfl).run ?_); clear hE a; intro a hE
      refine wpList_nil ?_
      refine then_normal ?_
      refine wp_ret ?_
      refine then_ret ?_
      refine ret1 rfl hE rfl ?_
      exact ⟨rfl, _, (hD4.trans hD12), hI.drop⟩
    · intro hz0; replace hz0 := eql_f hz0; clear hE a; intro a hE
      refine l_step rfl (o_pure hE rfl rfl (p_pick (b := false) rfl rfl).run ?_); clear hE a; intro a hE
      refine wpList_nil ?_
      refine then_normal ?_
      refine c_false hE rfl ?_
      refine wp_skip ?_
      refine then_normal ?_
      refine wp_seq ?_
      refine wp_region_list ?_   -- region 9
      refine l_step rfl (o_pure hE rfl rfl (p_move rfl).run ?_); clear hE a; intro a hE
      refine l_step rfl (o_pure hE rfl rfl (p_move rfl).run ?_); clear hE a; intro a hE
      refine l_step rfl (o_pure hE rfl rfl (p_len rfl rfl Tryd.underlying65).run ?_); clear hE a; intro a hE
      refine l_step rfl (o_call hE rfl rfl rfl rfl ent_20 (Number_spec (m := ((madeKv l l.length).length : Nat)) hI _ (by omega) (by omega)) ?_)
      clear hI hE a
      rintro r w ⟨⟨z18, rfl, hz19, hz20⟩, hI⟩ a hE
      obtain ⟨kn, rfl⟩ : ∃ n : Nat, z18 = n := ⟨z18.toNat, by omega⟩
      have hknl : kn < (madeKv l l.length).length := by omega
      refine l_step rfl (o_pure hE rfl rfl (p_assign rfl).run ?_); clear hE a; intro a hE
      refine wpList_nil ?_
      refine then_normal ?_
      refine wp_seq ?_
      refine wp_region_list ?_   -- region 10
      refine l_step rfl (o_pure hE rfl rfl (p_move rfl).run ?_); clear hE a; intro a hE
      refine l_step rfl (o_pure hE rfl rfl (p_move rfl).run ?_); clear hE a; intro a hE
      obtain ⟨x_21, hx_21⟩ : ∃ z9, ((madeKv l (l).length))[kn]? = some z9 := ⟨_, List.getElem?_eq_getElem (by omega)⟩
      obtain ⟨b_21, o_21, cs_21, T_21, fr_21, rfl, hb_21, hat_21⟩ := hH15.at_ (by intro h0; rw [h0] at hx_21; simp at hx_21)
      obtain ⟨vs_21, hl_21, ⟨k_21, v_21, rfl, hk_21, hv_21, hok_21⟩, hex_21, hsz_21, hce_21⟩ := hat_21.extract hx_21 (by omega)
      obtain ⟨A22, c23, rfl, _⟩ := hk_21.slice
      obtain ⟨A24, c25, rfl, _⟩ := hv_21.slice
      refine l_step rfl (o_pure hE rfl rfl (p_indexAddr (m := o_21 + kn * 2) rfl rfl Tryd.underlying65 sz_69 (by omega) (by omega) (by simp)).run ?_); clear hE a; intro a hE
      refine l_step rfl (o_pure hE rfl rfl (p_fieldAddr rfl fo_69_0 rfl).run ?_); clear hE a; intro a hE
      refine l_step rfl (o_pure hE rfl rfl (r_load rfl scal_22 (hI.data _ _ (hb_21)) (hce_21 0 _ rfl)) ?_); clear hE a; intro a hE
      refine l_step rfl (o_pure hE rfl rfl (p_assign rfl).run ?_); clear hE a; intro a hE
      refine wpList_nil ?_
      refine then_normal ?_
      refine wp_seq ?_
      refine wp_region_list ?_   -- region 11
      refine l_step rfl (o_pure hE rfl rfl (p_move rfl).run ?_); clear hE a; intro a hE
      refine l_step rfl (o_pure hE rfl rfl (p_move rfl).run ?_); clear hE a; intro a hE
      have hkf := (made_fine l l.length).ents _ (List.mem_of_getElem? hx_21)
      have hk32 : x_21.1.length ≤ 32 := hkf.1.2
      have hkne : x_21.1 ≠ [] := by intro h0; have := hkf.1.1; rw [h0] at this; simp at this
      refine l_step rfl (o_call hE rfl rfl rfl rfl ent_40 (Count_spec (frm := []) (to := x_21.1) (s := 0) hI (hS.mono (hD4.trans hD12)) hP13 hO14 (RB.nil _) hk_21 (by simp) hk32 (from_nil _)) ?_)
      clear hI hE a
      rintro r w ⟨n26, D27, sp28, rfl, hdn29, hD30, hP31, hI⟩ a hE
      have hna := done_upto hO14.sorted hx_21 hkne hdn29
      refine l_step rfl (o_pure hE rfl rfl (p_move rfl).run ?_); clear hE a; intro a hE
      refine l_step rfl (o_pure hE rfl rfl (f_extract rfl rfl).run ?_); clear hE a; intro a hE
      refine l_step rfl (o_pure hE rfl rfl (f_extract rfl rfl).run ?_); clear hE a; intro a hE
      refine l_step rfl (o_pure hE rfl rfl (p_assign rfl).run ?_); clear hE a; intro a hE
      refine l_step rfl (o_pure hE rfl rfl (p_assign rfl).run ?_); clear hE a; intro a hE
      refine wpList_nil ?_
      refine then_normal ?_
      refine wp_seq ?_
      refine wp_region_list ?_   -- region 12
      refine l_step rfl (o_pure hE rfl rfl (p_move rfl).run ?_); clear hE a; intro a hE
      refine l_step rfl (o_pure hE rfl rfl (p_move rfl).run ?_); clear hE a; intro a hE
      refine l_step rfl (o_call hE rfl rfl rfl rfl ent_40 (Count_spec (frm := x_21.1) (to := []) (s := kn) hI (hS.mono ((hD4.trans hD12).trans hD30)) hP31 hO14 (hk_21.mono hD30) (RB.nil _) hk32 (by simp) (from_at hO14.sorted hx_21)) ?_)
      clear hI hE a
      rintro r w ⟨n32, D33, sp34, rfl, hdn35, hD36, hP37, hI⟩ a hE
      have hnb := done_len (by omega) hdn35
      refine l_step rfl (o_pure hE rfl rfl (p_move rfl).run ?_); clear hE a; intro a hE
      refine l_step rfl (o_pure hE rfl rfl (f_extract rfl rfl).run ?_); clear hE a; intro a hE
      refine l_step rfl (o_pure hE rfl rfl (f_extract rfl rfl).run ?_); clear hE a; intro a hE
      refine l_step rfl (o_pure hE rfl rfl (p_assign rfl).run ?_); clear hE a; intro a hE
      refine l_step rfl (o_pure hE rfl rfl (p_assign rfl).run ?_); clear hE a; intro a hE
      refine wpList_nil ?_
      refine then_normal ?_
      refine wp_seq ?_
      refine wp_region_list ?_   -- region 13
      refine l_step rfl (o_pure hE rfl rfl (p_move rfl).run ?_); clear hE a; intro a hE
      refine l_step rfl (o_pure hE rfl rfl (p_move rfl).run ?_); clear hE a; intro a hE
      refine l_step rfl (o_pure hE rfl rfl (p_move rfl).run ?_); clear hE a; intro a hE
      refine l_step rfl (o_call hE rfl rfl rfl rfl ent_40 (Count_spec (frm := x_21.1) (to := x_21.1) (s := kn) hI (hS.mono (((hD4.trans hD12).trans hD30).trans hD36)) hP37 hO14 (hk_21.mono (hD30.trans hD36)) (hk_21.mono (hD30.trans hD36)) hk32 hk32 (from_at hO14.sorted hx_21)) ?_)
      clear hI hE a
      rintro r w ⟨n38, D39, sp40, rfl, hdn41, hD42, hP43, hI⟩ a hE
      have hnc := done_none hx_21 hkne hdn41
      refine l_step rfl (o_pure hE rfl rfl (p_move rfl).run ?_); clear hE a; intro a hE
      refine l_step rfl (o_pure hE rfl rfl (f_extract rfl rfl).run ?_); clear hE a; intro a hE
      refine l_step rfl (o_pure hE rfl rfl (f_extract rfl rfl).run ?_); clear hE a; intro a hE
      refine l_step rfl (o_pure hE rfl rfl (p_assign rfl).run ?_); clear hE a; intro a hE
      refine l_step rfl (o_pure hE rfl rfl (p_assign rfl).run ?_); clear hE a; intro a hE
      refine wpList_nil ?_
      refine then_normal ?_
      refine wp_seq ?_
      refine wp_region_list ?_   -- region 14
      refine l_step rfl (o_pure hE rfl rfl (p_move rfl).run ?_); clear hE a; intro a hE
      refine l_step rfl (o_call hE rfl rfl rfl rfl ent_40 (Count_spec (frm := []) (to := []) (s := 0) hI (hS.mono ((((hD4.trans hD12).trans hD30).trans hD36).trans hD42)) hP43 hO14 (RB.nil _) (RB.nil _) (by simp) (by simp) (from_nil _)) ?_)
      clear hI hE a
      rintro r w ⟨n44, D45, sp46, rfl, hdn47, hD48, hP49, hI⟩ a hE
      have hnd := done_len (Nat.zero_le _) hdn47
      refine l_step rfl (o_pure hE rfl rfl (p_move rfl).run ?_); clear hE a; intro a hE
      refine l_step rfl (o_pure hE rfl rfl (f_extract rfl rfl).run ?_); clear hE a; intro a hE
      refine l_step rfl (o_pure hE rfl rfl (f_extract rfl rfl).run ?_); clear hE a; intro a hE
      refine l_step rfl (o_pure hE rfl rfl (p_assign rfl).run ?_); clear hE a; intro a hE
      refine l_step rfl (o_pure hE rfl rfl (p_assign rfl).run ?_); clear hE a; intro a hE
      refine wpList_nil ?_
      refine then_normal ?_
      refine wp_seq ?_
      refine wp_region_list ?_   -- region 15
      refine l_step rfl (o_pure hE rfl rfl (p_move rfl).run ?_); clear hE a; intro a hE
      refine l_step rfl (o_pure hE rfl rfl (p_ifaceNil Tryd.underlying25 rfl rfl rfl).run ?_); clear hE a; intro a hE
      refine l_step rfl (o_pure hE rfl rfl (p_move rfl).run ?_); clear hE a; intro a hE
      refine l_go hE rfl (o_pure hE rfl rfl (p_move rfl).run ?_); clear hE a; intro a hE
      refine l_go hE rfl (o_pure hE rfl rfl (p_ifaceNil Tryd.underlying25 rfl rfl rfl).run ?_); clear hE a; intro a hE
      refine l_step rfl (o_pure hE rfl rfl (p_pick (b := true) rfl rfl).run ?_); clear hE a; intro a hE
      refine l_step rfl (o_pure hE rfl rfl (p_move rfl).run ?_); clear hE a; intro a hE
      refine l_go hE rfl (o_pure hE rfl rfl (p_move rfl).run ?_); clear hE a; intro a hE
      refine l_go hE rfl (o_pure hE rfl rfl (p_ifaceNil Tryd.underlying25 rfl rfl rfl).run ?_); clear hE a; intro a hE
      refine l_step rfl (o_pure hE rfl rfl (p_pick (b := true) rfl rfl).run ?_); clear hE a; intro a hE
      refine l_step rfl (o_pure hE rfl rfl (p_move rfl).run ?_); clear hE a; intro a hE
      refine l_go hE rfl (o_pure hE rfl rfl (p_move rfl).run ?_); clear hE a; intro a hE
      refine l_go hE rfl (o_pure hE rfl rfl (p_ifaceNil Tryd.underlying25 rfl rfl rfl).run ?_); clear hE a; intro a hE
      refine l_step rfl (o_pure hE rfl rfl (p_pick (b := true) rfl rfl).run ?_); clear hE a; intro a hE
      refine l_step rfl (o_pure hE rfl rfl (p_move rfl).run ?_); clear hE a; intro a hE
      refine l_go hE rfl (o_pure hE rfl rfl (p_move rfl).run ?_); clear hE a; intro a hE
      refine l_go hE rfl (o_pure hE rfl rfl (p_move rfl).run ?_); clear hE a; intro a hE
      refine l_go hE rfl (o_pure hE rfl rfl (p_cmp rfl rfl (eql_y (by omega))).run ?_); clear hE a; intro a hE
      refine l_step rfl (o_pure hE rfl rfl (p_pick (b := true) rfl rfl).run ?_); clear hE a; intro a hE
      refine l_step rfl (o_pure hE rfl rfl (p_move rfl).run ?_); clear hE a; intro a hE
      refine l_go hE rfl (o_pure hE rfl rfl (p_move rfl).run ?_); clear hE a; intro a hE
      refine l_go hE rfl (o_pure hE rfl rfl (p_move rfl).run ?_); clear hE a; intro a hE
      refine l_go hE rfl (o_pure hE rfl rfl (p_len rfl rfl Tryd.underlying65).run ?_); clear hE a; intro a hE
      refine l_go hE rfl (o_pure hE rfl rfl (p_move rfl).run ?_); clear hE a; intro a hE
      refine l_go hE rfl (o_pure hE rfl rfl (p_arith (z := (((madeKv l l.length).length - kn : Nat) : Int)) rfl rfl (sub_z (by omega) (by omega) (by omega))).run ?_); clear hE a; intro a hE
      refine l_go hE rfl (o_pure hE rfl rfl (p_cmp rfl rfl (eql_y (by omega))).run ?_); clear hE a; intro a hE
      refine l_step rfl (o_pure hE rfl rfl (p_pick (b := true) rfl rfl).run ?_); clear hE a; intro a hE
      refine l_step rfl (o_pure hE rfl rfl (p_move rfl).run ?_); clear hE a; intro a hE
      refine l_go hE rfl (o_pure hE rfl rfl (p_move rfl).run ?_); clear hE a; intro a hE
      refine l_go hE rfl (o_pure hE rfl rfl (p_cmp rfl rfl (eql_y (by omega))).run ?_); clear hE a; intro a hE
      refine l_step rfl (o_pure hE rfl rfl (p_pick (b := true) rfl rfl).run ?_); clear hE a; intro a hE
      refine l_step rfl (o_pure hE rfl rfl (p_move rfl).run ?_); clear hE a; intro a hE
      refine l_go hE rfl (o_pure hE rfl rfl (p_move rfl).run ?_); clear hE a; intro a hE
      refine l_go hE rfl (o_pure hE rfl rfl (p_move rfl).run ?_); clear hE a; intro a hE
      refine l_go hE rfl (o_pure hE rfl rfl (p_len rfl rfl Tryd.underlying65).run ?_); clear hE a; intro a hE
      refine l_go hE rfl (o_pure hE rfl rfl (p_cmp rfl rfl (eql_y (by omega))).run ?_); clear hE a; intro a hE
      refine l_step rfl (o_pure hE rfl rfl (p_pick (b := true) rfl rfl).run ?_); clear hE a; intro a hE
      refine l_step rfl (o_pure hE rfl rfl (p_assign rfl).run ?_); clear hE a; intro a hE
      refine wpList_nil ?_
      refine then_normal ?_
      refine wp_ret ?_
      refine ret1 rfl hE rfl ?_
      exact ⟨rfl, _, (((((hD4.trans hD12).trans hD30).trans hD36).trans hD42).trans hD48), hI.drop⟩
  · replace hbf6 := iff_f hbf6
    refine l_step rfl (o_pure hE rfl rfl (p_not rfl).run ?_); clear hE a; intro a hE
    refine l_step rfl (o_pure hE rfl rfl (p_move rfl).run ?_); clear hE a; intro a hE
    refine l_skip hE rfl rfl rfl ?_; clear hE a; intro a hE
    refine l_skip hE rfl rfl rfl ?_; clear hE a; intro a hE
    refine l_step rfl (o_pure hE rfl rfl (p_pick (b := true) rfl rfl).run ?_); clear hE a; intro a hE
    refine wpList_nil ?_
    refine then_normal ?_
    refine c_true hE rfl ?_
    refine wp_seq ?_
    refine wp_region_list ?_   -- region 5
    refine l_step rfl (o_pure hE rfl rfl (p_move rfl).run ?_); clear hE a; intro a hE
    refine l_step rfl (o_pure hE rfl rfl (p_assign rfl).run ?_); clear hE a; intro a hE
    refine wpList_nil ?_
    refine then_normal ?_
    refine wp_ret ?_
    refine then_ret ?_
    refine ret1 rfl hE rfl ?_
    exact ⟨rfl, _, hD4, hI⟩
end Go.Proofs.YtbogbnkckofpdaaDoor.B
