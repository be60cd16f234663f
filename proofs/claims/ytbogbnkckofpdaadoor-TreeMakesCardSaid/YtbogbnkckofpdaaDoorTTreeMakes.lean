/- What functions of the program compute, each function once: steps over the model, and the plain law of it. -/
import Derived.Test.YtbogbnkckofpdaaDoorTCheck
namespace Go.Proofs.YtbogbnkckofpdaaDoor.B
open Go Go.Proofs
set_option linter.unusedVariables false
set_option linter.unusedSimpArgs false
set_option maxRecDepth 20000
set_option maxHeartbeats 8000000
namespace FTTreeMakes
theorem ent_18 : enters Tryd.prog 18 = true := by kernel_rfl
theorem ent_22 : enters Tryd.prog 22 = true := by kernel_rfl
theorem ent_30 : enters Tryd.prog 30 = true := by kernel_rfl
theorem ent_32 : enters Tryd.prog 32 = true := by kernel_rfl
theorem ent_33 : enters Tryd.prog 33 = true := by kernel_rfl
theorem ent_34 : enters Tryd.prog 34 = true := by kernel_rfl
theorem ent_35 : enters Tryd.prog 35 = true := by kernel_rfl
theorem ent_36 : enters Tryd.prog 36 = true := by kernel_rfl
theorem ent_45 : enters Tryd.prog 45 = true := by kernel_rfl
theorem ent_46 : enters Tryd.prog 46 = true := by kernel_rfl
theorem ent_48 : enters Tryd.prog 48 = true := by kernel_rfl
theorem ent_49 : enters Tryd.prog 49 = true := by kernel_rfl
theorem ent_50 : enters Tryd.prog 50 = true := by kernel_rfl
theorem ent_51 : enters Tryd.prog 51 = true := by kernel_rfl
theorem ent_68 : enters Tryd.prog 68 = true := by kernel_rfl
theorem ent_98 : enters Tryd.prog 98 = true := by kernel_rfl
theorem fo_69_1 : fieldOff Tryd.prog 69 1 = some 1 := by kernel_rfl
theorem fo_83_2 : fieldOff Tryd.prog 83 2 = some 2 := by kernel_rfl
theorem fo_83_3 : fieldOff Tryd.prog 83 3 = some 3 := by kernel_rfl
theorem fo_83_4 : fieldOff Tryd.prog 83 4 = some 4 := by kernel_rfl
theorem fo_88_0 : fieldOff Tryd.prog 88 0 = some 0 := by kernel_rfl
theorem fo_88_1 : fieldOff Tryd.prog 88 1 = some 1 := by kernel_rfl
theorem fo_88_2 : fieldOff Tryd.prog 88 2 = some 2 := by kernel_rfl
theorem fo_88_3 : fieldOff Tryd.prog 88 3 = some 3 := by kernel_rfl
theorem fo_88_4 : fieldOff Tryd.prog 88 4 = some 4 := by kernel_rfl
theorem fo_88_9 : fieldOff Tryd.prog 88 9 = some 9 := by kernel_rfl
theorem scal_2 : isScal Tryd.prog 2 = true := by kernel_rfl
theorem scal_22 : isScal Tryd.prog 22 = true := by kernel_rfl
theorem scal_3 : isScal Tryd.prog 3 = true := by kernel_rfl
theorem scal_4 : isScal Tryd.prog 4 = true := by kernel_rfl
theorem scal_5 : isScal Tryd.prog 5 = true := by kernel_rfl
theorem scal_65 : isScal Tryd.prog 65 = true := by kernel_rfl
theorem sz_5 : (Tryd.prog.info? 5).map (·.size) = some 1 := by kernel_rfl
theorem sz_69 : (Tryd.prog.info? 69).map (·.size) = some 2 := by kernel_rfl
theorem sz_83 : (Tryd.prog.info? 83).map (·.size) = some 5 := by kernel_rfl
theorem sz_88 : (Tryd.prog.info? 88).map (·.size) = some 10 := by kernel_rfl
theorem zer_69 : (Tryd.prog.info? 69).bind (·.zero) = some (.agg #[.slice none 0 0, .slice none 0 0]) := by kernel_rfl
theorem zer_83 : (Tryd.prog.info? 83).bind (·.zero) = some (.agg #[.int .i64 0, .int .i64 0, .int .i64 0, .int .i64 0, .slice none 0 0]) := by kernel_rfl
theorem zs_5 : (Tryd.prog.info? 5).map (fun i => (i.zero, i.size)) = some (some (.int .u8 0), 1) := by kernel_rfl
end FTTreeMakes
open FTTreeMakes
theorem lit_data {w0 w : World} {D : Sto} {ss : List Seg} {b T : Nat} {fr : Nat × Nat} (bs : List Nat) (i : Nat) (hI : Inv w0 D ss w) (hi : ss[i]? = some [(b, .cells (bytesV bs).toArray T fr)]) (hb : ∀ x ∈ bs, x < 256) :
    ∃ D', Le D D' ∧ Inv w0 D' (ss.eraseIdx i) w ∧ RB D' (.slice (some ⟨b, 0, none⟩) bs.length bs.length) bs := by
  obtain ⟨h1, h2⟩ := hI.shut_at i hi
  exact ⟨_, h2, h1, RB.lit hb⟩
theorem Inv.part {w0 w : World} {D : Sto} {ss : List Seg} {s1 s2 : Seg} (h : Inv w0 D ((s1 ++ s2) :: ss) w) : Inv w0 D (s1 :: s2 :: ss) w := h.perm (List.Perm.of_eq (by simp))
theorem E0_f0 : E0.f 0 = some ⟨0, 1, 0, -1, []⟩ := by kernel_rfl
theorem E0_f1 : E0.f 1 = some ⟨1, 3, 0, -1, [([110], [0, 2, 0, 0])]⟩ := by kernel_rfl
theorem E0_n : E0.n = 2 := by kernel_rfl
theorem E0_page : (newBt E0).page 0 = .ok ⟨0, 1, 0, -1, []⟩ := by simp only [Bt.page, newBt, E0_f0]; simp
theorem E0_down (key : Bs) : (newBt E0).down key = .ok ([⟨0, 1, 0, -1, []⟩], []) := by
  rw [Bt.down, Bt.downF, E0_page]; rfl
theorem E0_get (key : Bs) : (newBt E0).get key = if rightK key = false then .fail 105 none else .ok none := by
  rw [Bt.get, E0_down]; rfl
theorem E0_next : (newBt E0).from_ [] false = .ok none := by
  rw [Bt.from_, E0_down]; rfl
theorem makeR_ok : ∀ x ∈ makeR, (0 ≤ x.page ∧ x.page ≤ 1) ∧ x.lsn = 0 ∧ x.back = 0 ∧ x.epoch = 0 ∧ x.group = 0 ∧ x.last = false := by
  intro x hx
  simp only [makeR, List.mem_cons, List.not_mem_nil, or_false] at hx
  rcases hx with rfl | rfl | rfl <;> simp
theorem empty_spec {w0 w : World} {D : Sto} {ss : List Seg} (hI : Inv w0 D ss w) {ad : Nat → Addr} (hS : Sents D ad) :
    Calls Tryd.prog 32 #[] w (Ret fun r w' => ∃ D' s q, Le D D' ∧ r = .tuple #[.pointer (some ⟨q, 0, none⟩), .int .i64 4] ∧ PoolS D' (.pointer (some ⟨q, 0, none⟩)) E0 s ∧ Inv w0 D' (s :: ss) w') := by
  refine enter (N := 18) Tryd.func32 rfl rfl rfl ?_
  intro a hE
  refine wp_seq ?_
  refine wp_region_list ?_   -- region 0
  refine l_step rfl (o_pure hE rfl rfl (p_assign rfl).run ?_); clear hE a; intro a hE
  refine l_step rfl (o_pure hE rfl rfl (p_assign rfl).run ?_); clear hE a; intro a hE
  refine wpList_nil ?_
  refine then_normal ?_
  refine wp_seq ?_
  refine wp_region_list ?_   -- region 1
  refine l_step rfl (o_call hE rfl rfl rfl rfl ent_68 (PoolNew_spec hI) ?_)
  clear hI hE a
  rintro r w ⟨s1, hP2, hI⟩ a hE
  obtain ⟨bp3, hbp⟩ := hP2.ptr
  subst hbp
  refine l_step rfl (o_pure hE rfl rfl (p_assign rfl).run ?_); clear hE a; intro a hE
  refine wpList_nil ?_
  refine then_normal ?_
  refine wp_seq ?_
  refine wp_seq ?_
  refine wp_region_list ?_   -- region 2
  refine l_step rfl (o_pure hE rfl rfl (p_move rfl).run ?_); clear hE a; intro a hE
  refine l_step rfl (o_pure hE rfl rfl (p_eq rfl rfl (g_none rfl) (e_ptrNil Tryd.underlying52 rfl) rfl rfl).run ?_); clear hE a; intro a hE
  refine wpList_nil ?_
  refine then_normal ?_
  refine c_false hE rfl ?_
  refine wp_skip ?_
  refine then_normal ?_
  refine wp_seq ?_
  refine wp_region_list ?_   -- region 4
  refine l_step rfl (o_pure hE rfl rfl (p_move rfl).run ?_); clear hE a; intro a hE
  refine l_step rfl (o_call hE rfl rfl rfl rfl ent_48 (Make_spec hI) ?_)
  clear hI hE a
  rintro r w ⟨D4, hD5, hI, hL6⟩ a hE
  obtain ⟨A7, c8, rfl, _⟩ := hL6.slice
  refine l_step rfl (o_call hE rfl rfl rfl rfl ent_36 (laid_spec hI (hP2.mono hD5) (hS.mono hD5) hL6 (n := 1) (by omega) (by omega) (by show (3 : Nat) ≤ _; omega)) ?_)
  clear hI hE a
  rintro r w h a hE; rcases h with ⟨D9, s10, P11, hD12, hP13, hI, ⟨m14, hla15, rfl⟩ | ⟨hla15, m14, rfl⟩⟩
  · skip
    rw [E0_laid] at hla15
    injection hla15 with hla15
    injection hla15 with hz1 hz2
    subst hz1
    subst hz2
    refine l_step rfl (o_pure hE rfl rfl (p_move rfl).run ?_); clear hE a; intro a hE
    refine l_step rfl (o_pure hE rfl rfl (f_extract rfl rfl).run ?_); clear hE a; intro a hE
    refine l_step rfl (o_pure hE rfl rfl (f_extract rfl rfl).run ?_); clear hE a; intro a hE
    refine l_step rfl (o_pure hE rfl rfl (p_assign rfl).run ?_); clear hE a; intro a hE
    refine l_step rfl (o_pure hE rfl rfl (p_assign rfl).run ?_); clear hE a; intro a hE
    refine wpList_nil ?_
    refine then_normal ?_
    refine wp_seq ?_
    refine wp_seq ?_
    refine wp_region_list ?_   -- region 5
    refine l_step rfl (o_pure hE rfl rfl (p_move rfl).run ?_); clear hE a; intro a hE
    refine l_step rfl (o_pure hE rfl rfl (p_not rfl).run ?_); clear hE a; intro a hE
    refine wpList_nil ?_
    refine then_normal ?_
    refine c_false hE rfl ?_
    refine wp_skip ?_
    refine then_normal ?_
    refine wp_seq ?_
    refine wp_region_list ?_   -- region 7
    refine l_step rfl (o_pure hE rfl rfl (p_move rfl).run ?_); clear hE a; intro a hE
    refine l_step rfl (o_pure hE rfl rfl (p_move rfl).run ?_); clear hE a; intro a hE
    refine l_step rfl (o_pure hE rfl rfl (p_assign rfl).run ?_); clear hE a; intro a hE
    refine l_step rfl (o_pure hE rfl rfl (p_assign rfl).run ?_); clear hE a; intro a hE
    refine wpList_nil ?_
    refine then_normal ?_
    refine wp_ret ?_
    refine ret2 rfl hE rfl rfl ?_
    exact ⟨_, _, _, (hD5.trans hD12), rfl, hP13, hI⟩
  · skip
    exfalso
    rw [E0_laid] at hla15; cases hla15
theorem first21_spec {w0 w : World} {D : Sto} {ss : List Seg} (hI : Inv w0 D ss w) {ad : Nat → Addr} (hS : Sents D ad) :
    Calls Tryd.prog 30 #[] w (Ret fun r w' => ∃ D', Le D D' ∧ Inv w0 D' ss w' ∧ r = .bool true) := by
  refine enter (N := 47) Tryd.func30 rfl rfl rfl ?_
  intro a hE
  refine wp_seq ?_
  refine wp_region_list ?_   -- region 0
  refine l_step rfl (o_pure hE rfl rfl (p_assign rfl).run ?_); clear hE a; intro a hE
  refine wpList_nil ?_
  refine then_normal ?_
  refine wp_seq ?_
  refine wp_region_list ?_   -- region 1
  refine l_step rfl (o_call hE rfl rfl rfl rfl ent_32 (empty_spec hI hS) ?_)
  clear hI hE a
  rintro r w ⟨D1, s2, q3, hD4, rfl, hP5, hI⟩ a hE
  refine l_step rfl (o_pure hE rfl rfl (p_move rfl).run ?_); clear hE a; intro a hE
  refine l_step rfl (o_pure hE rfl rfl (f_extract rfl rfl).run ?_); clear hE a; intro a hE
  refine l_step rfl (o_pure hE rfl rfl (f_extract rfl rfl).run ?_); clear hE a; intro a hE
  refine l_step rfl (o_pure hE rfl rfl (p_assign rfl).run ?_); clear hE a; intro a hE
  refine l_step rfl (o_pure hE rfl rfl (p_assign rfl).run ?_); clear hE a; intro a hE
  refine wpList_nil ?_
  refine then_normal ?_
  refine wp_seq ?_
  refine wp_seq ?_
  refine wp_region_list ?_   -- region 2
  refine l_step rfl (o_pure hE rfl rfl (p_move rfl).run ?_); clear hE a; intro a hE
  refine l_step rfl (o_pure hE rfl rfl (p_eq rfl rfl (g_none rfl) (e_ptrNil Tryd.underlying52 rfl) rfl rfl).run ?_); clear hE a; intro a hE
  refine wpList_nil ?_
  refine then_normal ?_
  refine c_false hE rfl ?_
  refine wp_skip ?_
  refine then_normal ?_
  refine wp_seq ?_
  refine wp_region_list ?_   -- region 4
  refine l_step rfl (o_pure hE rfl rfl (p_move rfl).run ?_); clear hE a; intro a hE
  refine l_step rfl (o_call hE rfl rfl rfl rfl ent_33 (New_spec hI E0 (some ⟨q3, 0, none⟩)) ?_)
  clear hI hE a
  rintro r w ⟨sb6, hB7, hI⟩ a hE
  obtain ⟨bb8, hvb⟩ := BatchS.ptr hB7
  subst hvb
  refine l_step rfl (o_pure hE rfl rfl (p_assign rfl).run ?_); clear hE a; intro a hE
  refine wpList_nil ?_
  refine then_normal ?_
  refine wp_seq ?_
  refine wp_seq ?_
  replace hI := hI.bring 1
  replace hI := hI.bring 1
  replace hI := hI.merge
  have hT9 := TreeS.join hB7 hP5 rfl
  refine wp_region_list ?_   -- region 5
  refine l_step rfl (o_pure hE rfl rfl (p_move rfl).run ?_); clear hE a; intro a hE
  refine l_step rfl (o_pure hE rfl rfl (p_eq rfl rfl (g_none rfl) (e_ptrNil Tryd.underlying55 rfl) rfl rfl).run ?_); clear hE a; intro a hE
  refine l_step rfl (o_pure hE rfl rfl (p_move rfl).run ?_); clear hE a; intro a hE
  refine l_go hE rfl (o_pure hE rfl rfl (p_move rfl).run ?_); clear hE a; intro a hE
  refine l_go hE rfl (f_lit (vs := [(0, _)]) (l := [_]) hE hI rfl rfl rfl rfl Tryd.underlying22 zs_5 rfl rfl rfl ?_)
  clear hI hE a w; intro a b10 w hE hI
  refine l_go hE rfl (f_lit (vs := [(0, _)]) (l := [_]) hE hI rfl rfl rfl rfl Tryd.underlying22 zs_5 rfl rfl rfl ?_)
  clear hI hE a w; intro a b11 w hE hI
  obtain ⟨D12, hD13, hIa, hb14⟩ := lit_data [1] 1 hI rfl (by simp)
  replace hI := hIa
  clear hIa
  try simp only [splice, insAt, List.set_cons_succ, List.set_cons_zero, List.setIfInBounds_toArray, Value.cells, List.eraseIdx_cons_succ, List.eraseIdx_cons_zero, List.eraseIdx_zero, List.tail_cons] at hI
  obtain ⟨D15, hD16, hIa, hb17⟩ := lit_data [2] 0 hI rfl (by simp)
  replace hI := hIa
  clear hIa
  try simp only [splice, insAt, List.set_cons_succ, List.set_cons_zero, List.setIfInBounds_toArray, Value.cells, List.eraseIdx_cons_succ, List.eraseIdx_cons_zero, List.eraseIdx_zero, List.tail_cons] at hI
  obtain ⟨b9, hb9, hg9⟩ := first_put
  refine l_go hE rfl (o_call hE rfl rfl rfl rfl ent_34 (BPut_spec (key := [1]) (val := [2]) hI (hS.mono ((hD4.trans hD13).trans hD16)) (hT9.mono (hD13.trans hD16)) (hb14.mono hD16) hb17 (by show (0 : Nat) ≤ _; omega)) ?_)
  clear hI hE a
  rintro r w h a hE; rcases h with ⟨b18, hx19, rfl, D20, s21, hD22, hT23, hI⟩ | ⟨c24, o25, hbad, rfl, D26, s27, hD28, hT29, hI⟩
  · skip
    rw [hb9] at hx19
    injection hx19 with hx19
    subst hx19
    refine l_go hE rfl (o_pure hE rfl rfl (p_ifaceNil Tryd.underlying25 rfl rfl rfl).run ?_); clear hE a; intro a hE
    refine l_step rfl (o_pure hE rfl rfl (p_pick (b := false) rfl rfl).run ?_); clear hE a; intro a hE
    refine wpList_nil ?_
    refine then_normal ?_
    refine c_false hE rfl ?_
    refine wp_skip ?_
    refine then_normal ?_
    refine wp_seq ?_
    refine wp_region_list ?_   -- region 7
    refine l_step rfl (o_pure hE rfl rfl (p_move rfl).run ?_); clear hE a; intro a hE
    refine l_step rfl (f_lit (vs := [(0, _)]) (l := [_]) hE hI rfl rfl rfl rfl Tryd.underlying22 zs_5 rfl rfl rfl ?_)
    clear hI hE a w; intro a b30 w hE hI
    obtain ⟨D31, hD32, hIa, hb33⟩ := lit_data [1] 0 hI rfl (by simp)
    replace hI := hIa
    clear hIa
    try simp only [splice, insAt, List.set_cons_succ, List.set_cons_zero, List.setIfInBounds_toArray, Value.cells, List.eraseIdx_cons_succ, List.eraseIdx_cons_zero, List.eraseIdx_zero, List.tail_cons] at hI
    refine l_step rfl (o_call hE rfl rfl rfl rfl ent_35 (BGet_spec (key := [1]) hI (hS.mono ((((hD4.trans hD13).trans hD16).trans hD22).trans hD32)) (hT23.mono hD32) hb33) ?_)
    clear hI hE a
    rintro r w h a hE; rcases h with ⟨res34, hx35, D36, vr37, hD38, rfl, hr39, hT40, hI⟩ | ⟨c41, o42, hbad, rfl, D43, s44, hD45, hT46, hI⟩
    · skip
      rw [hg9] at hx35
      injection hx35 with hx35
      subst hx35
      replace hr39 : RB D36 vr37 [2] := hr39
      have hl2 : ([2] : List Nat).length = 1 := rfl
      obtain ⟨A47, c48, rfl, _⟩ := hr39.slice
      refine l_step rfl (o_pure hE rfl rfl (p_move rfl).run ?_); clear hE a; intro a hE
      refine l_step rfl (o_pure hE rfl rfl (f_extract rfl rfl).run ?_); clear hE a; intro a hE
      refine l_step rfl (o_pure hE rfl rfl (f_extract rfl rfl).run ?_); clear hE a; intro a hE
      refine l_step rfl (o_pure hE rfl rfl (f_extract rfl rfl).run ?_); clear hE a; intro a hE
      refine l_step rfl (o_pure hE rfl rfl (p_assign rfl).run ?_); clear hE a; intro a hE
      refine l_step rfl (o_pure hE rfl rfl (p_assign rfl).run ?_); clear hE a; intro a hE
      refine l_step rfl (o_pure hE rfl rfl (p_assign rfl).run ?_); clear hE a; intro a hE
      refine wpList_nil ?_
      refine then_normal ?_
      refine wp_seq ?_
      refine wp_region_list ?_   -- region 8
      refine l_step rfl (o_pure hE rfl rfl (p_move rfl).run ?_); clear hE a; intro a hE
      refine l_step rfl (o_pure hE rfl rfl (p_move rfl).run ?_); clear hE a; intro a hE
      refine l_go hE rfl (o_pure hE rfl rfl (p_move rfl).run ?_); clear hE a; intro a hE
      refine l_go hE rfl (o_pure hE rfl rfl (p_ifaceNil Tryd.underlying25 rfl rfl rfl).run ?_); clear hE a; intro a hE
      refine l_step rfl (o_pure hE rfl rfl (p_pick (b := true) rfl rfl).run ?_); clear hE a; intro a hE
      refine l_step rfl (o_pure hE rfl rfl (p_move rfl).run ?_); clear hE a; intro a hE
      refine l_go hE rfl (o_pure hE rfl rfl (p_move rfl).run ?_); clear hE a; intro a hE
      refine l_go hE rfl (o_pure hE rfl rfl (p_len rfl rfl Tryd.underlying22).run ?_); clear hE a; intro a hE
      refine l_go hE rfl (o_pure hE rfl rfl (p_cmp rfl rfl (eql_y (rfl))).run ?_); clear hE a; intro a hE
      refine l_step rfl (o_pure hE rfl rfl (p_pick (b := true) rfl rfl).run ?_); clear hE a; intro a hE
      refine l_step rfl (o_pure hE rfl rfl (p_move rfl).run ?_); clear hE a; intro a hE
      refine l_go hE rfl (o_pure hE rfl rfl (p_move rfl).run ?_); clear hE a; intro a hE
      obtain ⟨b_49, o_49, cs_49, T_49, fr_49, rfl, hb_49, hc_49⟩ := hr39.at_ (by simp)
      refine l_go hE rfl (o_pure hE rfl rfl (p_indexAddr rfl rfl Tryd.underlying22 sz_5 (by omega) (by show (0 : Int) < ((1 : Nat) : Int); omega) rfl).run ?_); clear hE a; intro a hE
      refine l_go hE rfl (o_pure hE rfl rfl (r_load rfl scal_5 (hI.data _ _ (hb_49)) (RB.cell hc_49 (by omega) (by omega))) ?_); clear hE a; intro a hE
      refine l_go hE rfl (o_pure hE rfl rfl (p_cmp rfl rfl (eql_y (rfl))).run ?_); clear hE a; intro a hE
      refine l_step rfl (o_pure hE rfl rfl (p_pick (b := true) rfl rfl).run ?_); clear hE a; intro a hE
      refine l_step rfl (o_pure hE rfl rfl (p_assign rfl).run ?_); clear hE a; intro a hE
      refine wpList_nil ?_
      refine then_normal ?_
      refine wp_ret ?_
      refine ret1 rfl hE rfl ?_
      exact ⟨_, (((((hD4.trans hD13).trans hD16).trans hD22).trans hD32).trans hD38), hI.drop, rfl⟩
    · skip
      exfalso
      rw [hg9] at hbad; cases hbad
  · skip
    exfalso
    rw [hb9] at hbad; cases hbad
theorem at0_spec {w0 w : World} {D : Sto} {ss : List Seg} (hI : Inv w0 D ss w) {vk : Value} {key : List Nat} (hk : RB D vk key) :
    Calls Tryd.prog 98 #[.slice none 0 0, vk] w (Ret fun r w' => r = .tuple #[.int .i64 0, .bool false] ∧ Inv w0 D ss w') := by
  obtain ⟨A1, c2, rfl, _⟩ := hk.slice
  refine enter (N := 36) Tryd.func98 rfl rfl rfl ?_
  intro a hE
  refine wp_seq ?_
  refine wp_region_list ?_   -- region 0
  refine l_step rfl (o_pure hE rfl rfl (p_assign rfl).run ?_); clear hE a; intro a hE
  refine l_step rfl (o_pure hE rfl rfl (p_assign rfl).run ?_); clear hE a; intro a hE
  refine wpList_nil ?_
  refine then_normal ?_
  refine wp_seq ?_
  refine wp_region_list ?_   -- region 1
  refine l_step rfl (o_pure hE rfl rfl (p_assign rfl).run ?_); clear hE a; intro a hE
  refine wpList_nil ?_
  refine then_normal ?_
  refine wp_seq ?_
  refine wp_block ?_
  refine c_once ?_
  refine wp_seq ?_
  refine wp_seq ?_
  refine wp_region_list ?_   -- region 2
  refine l_step rfl (o_pure hE rfl rfl (p_move rfl).run ?_); clear hE a; intro a hE
  refine l_step rfl (o_pure hE rfl rfl (p_move rfl).run ?_); clear hE a; intro a hE
  refine l_step rfl (o_pure hE rfl rfl (p_len rfl rfl Tryd.underlying65).run ?_); clear hE a; intro a hE
  refine l_step rfl (o_pure hE rfl rfl (p_cmp rfl rfl rfl).run ?_); clear hE a; intro a hE
  refine l_step rfl (o_pure hE rfl rfl (p_move rfl).run ?_); clear hE a; intro a hE
  refine l_skip hE rfl rfl rfl ?_; clear hE a; intro a hE
  refine l_skip hE rfl rfl rfl ?_; clear hE a; intro a hE
  refine l_skip hE rfl rfl rfl ?_; clear hE a; intro a hE
  refine l_skip hE rfl rfl rfl ?_; clear hE a; intro a hE
  refine l_skip hE rfl rfl rfl ?_; clear hE a; intro a hE
  refine l_skip hE rfl rfl rfl ?_; clear hE a; intro a hE
  refine l_skip hE rfl rfl rfl ?_; clear hE a; intro a hE
  refine l_step rfl (o_pure hE rfl rfl (p_pick (b := false) rfl rfl).run ?_); clear hE a; intro a hE
  refine wpList_nil ?_
  refine then_normal ?_
  refine c_false hE rfl ?_
  refine wp_exit ?_
  refine then_exit ?_
  refine then_exit ?_
  refine blk_same ?_
  refine then_normal ?_
  refine wp_seq ?_
  refine wp_region_list ?_   -- region 4
  refine l_step rfl (o_pure hE rfl rfl (p_move rfl).run ?_); clear hE a; intro a hE
  refine l_step rfl (o_pure hE rfl rfl (p_move rfl).run ?_); clear hE a; intro a hE
  refine l_step rfl (o_pure hE rfl rfl (p_move rfl).run ?_); clear hE a; intro a hE
  refine l_step rfl (o_pure hE rfl rfl (p_len rfl rfl Tryd.underlying65).run ?_); clear hE a; intro a hE
  refine l_step rfl (o_pure hE rfl rfl (p_cmp rfl rfl rfl).run ?_); clear hE a; intro a hE
  refine l_step rfl (o_pure hE rfl rfl (p_move rfl).run ?_); clear hE a; intro a hE
  refine l_skip hE rfl rfl rfl ?_; clear hE a; intro a hE
  refine l_skip hE rfl rfl rfl ?_; clear hE a; intro a hE
  refine l_skip hE rfl rfl rfl ?_; clear hE a; intro a hE
  refine l_skip hE rfl rfl rfl ?_; clear hE a; intro a hE
  refine l_skip hE rfl rfl rfl ?_; clear hE a; intro a hE
  refine l_skip hE rfl rfl rfl ?_; clear hE a; intro a hE
  refine l_skip hE rfl rfl rfl ?_; clear hE a; intro a hE
  refine l_step rfl (o_pure hE rfl rfl (p_pick (b := false) rfl rfl).run ?_); clear hE a; intro a hE
  refine l_step rfl (o_pure hE rfl rfl (p_assign rfl).run ?_); clear hE a; intro a hE
  refine l_step rfl (o_pure hE rfl rfl (p_assign rfl).run ?_); clear hE a; intro a hE
  refine wpList_nil ?_
  refine then_normal ?_
  refine wp_ret ?_
  refine ret2 rfl hE rfl rfl ?_
  exact ⟨rfl, hI⟩
theorem tells0_spec {w0 w : World} {D : Sto} {ss : List Seg} {s : Seg} {vb vp : Value} {b : Bt} {P : Pl} (hI : Inv w0 D (s :: ss) w) {ad : Nat → Addr} (hS : Sents D ad) (hT : TreeS D vb vp b P s) {vk : Value} {key : Bs} (hk : RB D vk key) (hget : b.get key = if rightK key = false then .fail 105 none else .ok none) :
    Calls Tryd.prog 50 #[vb, .slice none 0 0, vk] w (Ret fun r w' => r = .bool true ∧ ∃ D' s', Le D D' ∧ TreeS D' vb vp b P s' ∧ Inv w0 D' (s' :: ss) w') := by
  obtain ⟨A1, c2, rfl, _⟩ := hk.slice
  refine enter (N := 59) Tryd.func50 rfl rfl rfl ?_
  intro a hE
  refine wp_seq ?_
  refine wp_region_list ?_   -- region 0
  refine l_step rfl (o_pure hE rfl rfl (p_assign rfl).run ?_); clear hE a; intro a hE
  refine wpList_nil ?_
  refine then_normal ?_
  refine wp_seq ?_
  refine wp_region_list ?_   -- region 1
  refine l_step rfl (o_pure hE rfl rfl (p_move rfl).run ?_); clear hE a; intro a hE
  refine l_step rfl (o_pure hE rfl rfl (p_move rfl).run ?_); clear hE a; intro a hE
  refine l_step rfl (o_call hE rfl rfl rfl rfl ent_35 (BGet_spec hI hS hT hk) ?_)
  clear hI hE a
  rintro r w h a hE; rcases h with ⟨res3, hx4, D5, vr6, hD7, rfl, hr8, hT9, hI⟩ | ⟨c10, o11, hx4, rfl, D12, s13, hD14, hT15, hI⟩
  · skip
    have hrk : rightK key = true := by
      cases h : rightK key with
      | true => rfl
      | false => rw [hget, if_pos h] at hx4; cases hx4
    have hrk2 := rightK_len hrk
    rw [hget, if_neg (by rw [hrk]; exact Bool.noConfusion)] at hx4
    injection hx4 with hx4
    subst hx4
    obtain ⟨A16, c17, rfl, _⟩ := hr8.slice
    refine l_step rfl (o_pure hE rfl rfl (p_move rfl).run ?_); clear hE a; intro a hE
    refine l_step rfl (o_pure hE rfl rfl (f_extract rfl rfl).run ?_); clear hE a; intro a hE
    refine l_step rfl (o_pure hE rfl rfl (f_extract rfl rfl).run ?_); clear hE a; intro a hE
    refine l_step rfl (o_pure hE rfl rfl (f_extract rfl rfl).run ?_); clear hE a; intro a hE
    refine l_step rfl (o_pure hE rfl rfl (p_assign rfl).run ?_); clear hE a; intro a hE
    refine l_step rfl (o_pure hE rfl rfl (p_assign rfl).run ?_); clear hE a; intro a hE
    refine l_step rfl (o_pure hE rfl rfl (p_assign rfl).run ?_); clear hE a; intro a hE
    refine wpList_nil ?_
    refine then_normal ?_
    refine wp_seq ?_
    refine wp_seq ?_
    refine wp_region_list ?_   -- region 2
    refine l_step rfl (o_pure hE rfl rfl (p_move rfl).run ?_); clear hE a; intro a hE
    refine l_step rfl (o_pure hE rfl rfl (p_len rfl rfl Tryd.underlying22).run ?_); clear hE a; intro a hE
    refine l_step rfl (o_pure hE rfl rfl (p_cmp rfl rfl (lss_n (by omega))).run ?_); clear hE a; intro a hE
    refine l_step rfl (o_pure hE rfl rfl (p_move rfl).run ?_); clear hE a; intro a hE
    refine l_go hE rfl (o_pure hE rfl rfl (p_move rfl).run ?_); clear hE a; intro a hE
    refine l_go hE rfl (o_pure hE rfl rfl (p_len rfl rfl Tryd.underlying22).run ?_); clear hE a; intro a hE
    refine l_go hE rfl (o_pure hE rfl rfl (p_cmp rfl rfl (gtr_n (by omega))).run ?_); clear hE a; intro a hE
    refine l_step rfl (o_pure hE rfl rfl (p_pick (b := false) rfl rfl).run ?_); clear hE a; intro a hE
    refine wpList_nil ?_
    refine then_normal ?_
    refine c_false hE rfl ?_
    refine wp_skip ?_
    refine then_normal ?_
    refine wp_seq ?_
    refine wp_region_list ?_   -- region 4
    refine l_step rfl (o_pure hE rfl rfl (p_move rfl).run ?_); clear hE a; intro a hE
    refine l_step rfl (o_pure hE rfl rfl (p_move rfl).run ?_); clear hE a; intro a hE
    refine l_step rfl (o_call hE rfl rfl rfl rfl ent_98 (at0_spec hI (hk.mono hD7)) ?_)
    clear hI hE a
    rintro r w ⟨rfl, hI⟩ a hE
    refine l_step rfl (o_pure hE rfl rfl (p_move rfl).run ?_); clear hE a; intro a hE
    refine l_step rfl (o_pure hE rfl rfl (f_extract rfl rfl).run ?_); clear hE a; intro a hE
    refine l_step rfl (o_pure hE rfl rfl (f_extract rfl rfl).run ?_); clear hE a; intro a hE
    refine l_step rfl (o_pure hE rfl rfl (p_assign rfl).run ?_); clear hE a; intro a hE
    refine l_step rfl (o_pure hE rfl rfl (p_assign rfl).run ?_); clear hE a; intro a hE
    refine wpList_nil ?_
    refine then_normal ?_
    refine wp_seq ?_
    refine wp_region_list ?_   -- region 5
    refine l_step rfl (o_pure hE rfl rfl (p_move rfl).run ?_); clear hE a; intro a hE
    refine l_step rfl (o_pure hE rfl rfl (p_ifaceNil Tryd.underlying25 rfl rfl rfl).run ?_); clear hE a; intro a hE
    refine l_step rfl (o_pure hE rfl rfl (p_move rfl).run ?_); clear hE a; intro a hE
    refine l_go hE rfl (o_pure hE rfl rfl (p_move rfl).run ?_); clear hE a; intro a hE
    refine l_go hE rfl (o_pure hE rfl rfl (p_move rfl).run ?_); clear hE a; intro a hE
    refine l_go hE rfl (o_pure hE rfl rfl (p_boolEq Tryd.underlying4 rfl rfl rfl).run ?_); clear hE a; intro a hE
    refine l_step rfl (o_pure hE rfl rfl (p_pick (b := true) rfl rfl).run ?_); clear hE a; intro a hE
    refine l_step rfl (o_pure hE rfl rfl (p_move rfl).run ?_); clear hE a; intro a hE
    refine l_go hE rfl (o_pure hE rfl rfl (p_move rfl).run ?_); clear hE a; intro a hE
    refine l_go hE rfl (o_pure hE rfl rfl (p_not rfl).run ?_); clear hE a; intro a hE
    refine l_go hE rfl (o_pure hE rfl rfl (p_move rfl).run ?_); clear hE a; intro a hE
    refine l_skip hE rfl rfl rfl ?_; clear hE a; intro a hE
    refine l_skip hE rfl rfl rfl ?_; clear hE a; intro a hE
    refine l_skip hE rfl rfl rfl ?_; clear hE a; intro a hE
    refine l_skip hE rfl rfl rfl ?_; clear hE a; intro a hE
    refine l_skip hE rfl rfl rfl ?_; clear hE a; intro a hE
    refine l_skip hE rfl rfl rfl ?_; clear hE a; intro a hE
    refine l_skip hE rfl rfl rfl ?_; clear hE a; intro a hE
    refine l_go hE rfl (o_pure hE rfl rfl (p_pick (b := true) rfl rfl).run ?_); clear hE a; intro a hE
    refine l_step rfl (o_pure hE rfl rfl (p_pick (b := true) rfl rfl).run ?_); clear hE a; intro a hE
    refine l_step rfl (o_pure hE rfl rfl (p_assign rfl).run ?_); clear hE a; intro a hE
    refine wpList_nil ?_
    refine then_normal ?_
    refine wp_ret ?_
    refine ret1 rfl hE rfl ?_
    exact ⟨rfl, _, _, hD7, hT9, hI⟩
  · skip
    have hrk : rightK key = false := by
      cases h : rightK key with
      | false => rfl
      | true => rw [hget, if_neg (by rw [h]; exact Bool.noConfusion)] at hx4; cases hx4
    have hrk2 : ¬ (1 ≤ key.length ∧ key.length ≤ 32) := by
      rw [rightK, decide_eq_false_iff_not] at hrk; exact hrk
    rw [hget, if_pos hrk] at hx4
    injection hx4 with hz1 hz2
    subst hz1
    subst hz2
    refine l_step rfl (o_pure hE rfl rfl (p_move rfl).run ?_); clear hE a; intro a hE
    refine l_step rfl (o_pure hE rfl rfl (f_extract rfl rfl).run ?_); clear hE a; intro a hE
    refine l_step rfl (o_pure hE rfl rfl (f_extract rfl rfl).run ?_); clear hE a; intro a hE
    refine l_step rfl (o_pure hE rfl rfl (f_extract rfl rfl).run ?_); clear hE a; intro a hE
    refine l_step rfl (o_pure hE rfl rfl (p_assign rfl).run ?_); clear hE a; intro a hE
    refine l_step rfl (o_pure hE rfl rfl (p_assign rfl).run ?_); clear hE a; intro a hE
    refine l_step rfl (o_pure hE rfl rfl (p_assign rfl).run ?_); clear hE a; intro a hE
    refine wpList_nil ?_
    refine then_normal ?_
    refine wp_seq ?_
    refine wp_seq ?_
    refine wp_region_list ?_   -- region 2
    refine l_step rfl (o_pure hE rfl rfl (p_move rfl).run ?_); clear hE a; intro a hE
    refine l_step rfl (o_pure hE rfl rfl (p_len rfl rfl Tryd.underlying22).run ?_); clear hE a; intro a hE
    refine l_step rfl (o_cmp hE rfl rfl rfl rfl rfl rfl ?_ ?_)
    · intro hk1; replace hk1 := lss_t hk1; clear hE a; intro a hE
      refine l_step rfl (o_pure hE rfl rfl (p_move rfl).run ?_); clear hE a; intro a hE
      refine l_skip hE rfl rfl rfl ?_; clear hE a; intro a hE
      refine l_skip hE rfl rfl rfl ?_; clear hE a; intro a hE
      refine l_skip hE rfl rfl rfl ?_; clear hE a; intro a hE
      refine l_step rfl (o_pure hE rfl rfl (p_pick (b := true) rfl rfl).run ?_); clear hE a; intro a hE
      refine wpList_nil ?_
      refine then_normal ?_
      refine c_true hE rfl ?_
      refine wp_seq ?_
      refine wp_region_list ?_   -- region 3
      refine l_step rfl (o_pure hE rfl rfl (p_move rfl).run ?_); clear hE a; intro a hE
      refine l_step rfl (o_call hE rfl rfl rfl rfl ent_22 (Is_spec (f := .bare 105) hI (hS.mono hD14) rfl ⟨by omega, by omega⟩ 105) ?_)
      clear hI hE a
      rintro r w ⟨rfl, hI⟩ a hE
      refine l_step rfl (o_pure hE rfl rfl (p_move rfl).run ?_); clear hE a; intro a hE
      refine l_go hE rfl (o_pure hE rfl rfl (p_move rfl).run ?_); clear hE a; intro a hE
      refine l_go hE rfl (o_pure hE rfl rfl (p_not rfl).run ?_); clear hE a; intro a hE
      refine l_step rfl (o_pure hE rfl rfl (p_pick (b := true) rfl rfl).run ?_); clear hE a; intro a hE
      refine l_step rfl (o_pure hE rfl rfl (p_assign rfl).run ?_); clear hE a; intro a hE
      refine wpList_nil ?_
      refine then_normal ?_
      refine wp_ret ?_
      refine then_ret ?_
      refine ret1 rfl hE rfl ?_
      exact ⟨rfl, _, _, hD14, hT15, hI⟩
    · intro hk1; replace hk1 := lss_f hk1; clear hE a; intro a hE
      refine l_step rfl (o_pure hE rfl rfl (p_move rfl).run ?_); clear hE a; intro a hE
      refine l_go hE rfl (o_pure hE rfl rfl (p_move rfl).run ?_); clear hE a; intro a hE
      refine l_go hE rfl (o_pure hE rfl rfl (p_len rfl rfl Tryd.underlying22).run ?_); clear hE a; intro a hE
      refine l_go hE rfl (o_pure hE rfl rfl (p_cmp rfl rfl (gtr_y (by omega))).run ?_); clear hE a; intro a hE
      refine l_step rfl (o_pure hE rfl rfl (p_pick (b := false) rfl rfl).run ?_); clear hE a; intro a hE
      refine wpList_nil ?_
      refine then_normal ?_
      refine c_true hE rfl ?_
      refine wp_seq ?_
      refine wp_region_list ?_   -- region 3
      refine l_step rfl (o_pure hE rfl rfl (p_move rfl).run ?_); clear hE a; intro a hE
      refine l_step rfl (o_call hE rfl rfl rfl rfl ent_22 (Is_spec (f := .bare 105) hI (hS.mono hD14) rfl ⟨by omega, by omega⟩ 105) ?_)
      clear hI hE a
      rintro r w ⟨rfl, hI⟩ a hE
      refine l_step rfl (o_pure hE rfl rfl (p_move rfl).run ?_); clear hE a; intro a hE
      refine l_go hE rfl (o_pure hE rfl rfl (p_move rfl).run ?_); clear hE a; intro a hE
      refine l_go hE rfl (o_pure hE rfl rfl (p_not rfl).run ?_); clear hE a; intro a hE
      refine l_step rfl (o_pure hE rfl rfl (p_pick (b := true) rfl rfl).run ?_); clear hE a; intro a hE
      refine l_step rfl (o_pure hE rfl rfl (p_assign rfl).run ?_); clear hE a; intro a hE
      refine wpList_nil ?_
      refine then_normal ?_
      refine wp_ret ?_
      refine then_ret ?_
      refine ret1 rfl hE rfl ?_
      exact ⟨rfl, _, _, hD14, hT15, hI⟩
theorem TreeMakes_spec {w0 w : World} {D : Sto} {ss : List Seg} (hI : Inv w0 D ss w) {ad : Nat → Addr} (hS : Sents D ad) {vk : Value} {key : List Nat} (hk : RB D vk key) :
    Calls Tryd.prog 12 #[vk] w (Ret fun r w' => ∃ D', Le D D' ∧ Inv w0 D' ss w' ∧ r = .bool true) := by
  obtain ⟨A1, c2, rfl, _⟩ := hk.slice
  refine enter (N := 177) Tryd.func12 rfl rfl rfl ?_
  intro a hE
  refine wp_seq ?_
  refine wp_region_list ?_   -- region 0
  refine l_step rfl (o_pure hE rfl rfl (p_assign rfl).run ?_); clear hE a; intro a hE
  refine wpList_nil ?_
  refine then_normal ?_
  refine wp_seq ?_
  refine wp_region_list ?_   -- region 1
  refine l_step rfl (o_call hE rfl rfl rfl rfl ent_30 (first21_spec hI hS) ?_)
  clear hI hE a
  rintro r w ⟨D3, hD4, hI, rfl⟩ a hE
  refine l_step rfl (o_pure hE rfl rfl (p_assign rfl).run ?_); clear hE a; intro a hE
  refine wpList_nil ?_
  refine then_normal ?_
  refine wp_seq ?_
  refine wp_seq ?_
  refine wp_region_list ?_   -- region 2
  refine l_step rfl (o_pure hE rfl rfl (p_move rfl).run ?_); clear hE a; intro a hE
  refine l_step rfl (o_pure hE rfl rfl (p_not rfl).run ?_); clear hE a; intro a hE
  refine wpList_nil ?_
  refine then_normal ?_
  refine c_false hE rfl ?_
  refine wp_skip ?_
  refine then_normal ?_
  refine wp_seq ?_
  refine wp_seq ?_
  refine wp_region_list ?_   -- region 4
  refine l_step rfl (o_pure hE rfl rfl (p_move rfl).run ?_); clear hE a; intro a hE
  refine l_step rfl (o_pure hE rfl rfl (p_len rfl rfl Tryd.underlying22).run ?_); clear hE a; intro a hE
  refine l_step rfl (o_cmp hE rfl rfl rfl rfl rfl rfl ?_ ?_)
  · intro hk40; replace hk40 := gtr_t hk40; clear hE a; intro a hE
    refine l_step rfl (o_pure hE rfl rfl (p_move rfl).run ?_); clear hE a; intro a hE
    refine l_skip hE rfl rfl rfl ?_; clear hE a; intro a hE
    refine l_skip hE rfl rfl rfl ?_; clear hE a; intro a hE
    refine l_step rfl (o_pure hE rfl rfl (p_pick (b := true) rfl rfl).run ?_); clear hE a; intro a hE
    refine wpList_nil ?_
    refine then_normal ?_
    refine c_true hE rfl ?_
    refine wp_seq ?_
    refine wp_region_list ?_   -- region 5
    refine l_step rfl (o_pure hE rfl rfl (p_move rfl).run ?_); clear hE a; intro a hE
    refine l_step rfl (o_pure hE rfl rfl (p_assign rfl).run ?_); clear hE a; intro a hE
    refine wpList_nil ?_
    refine then_normal ?_
    refine wp_ret ?_
    refine then_ret ?_
    refine ret1 rfl hE rfl ?_
    exact ⟨_, hD4, hI, rfl⟩
  · intro hk40; replace hk40 := gtr_f hk40; clear hE a; intro a hE
    refine l_step rfl (o_pure hE rfl rfl (p_move rfl).run ?_); clear hE a; intro a hE
    refine l_go hE rfl (o_pure hE rfl rfl (p_move rfl).run ?_); clear hE a; intro a hE
    refine l_go hE rfl (o_pure hE rfl rfl (p_not rfl).run ?_); clear hE a; intro a hE
    refine l_step rfl (o_pure hE rfl rfl (p_pick (b := false) rfl rfl).run ?_); clear hE a; intro a hE
    refine wpList_nil ?_
    refine then_normal ?_
    refine c_false hE rfl ?_
    refine wp_skip ?_
    refine then_normal ?_
    refine wp_seq ?_
    refine wp_region_list ?_   -- region 6
    refine l_step rfl (o_call hE rfl rfl rfl rfl ent_48 (Make_spec hI) ?_)
    clear hI hE a
    rintro r w ⟨D5, hD6, hI, hL7⟩ a hE
    obtain ⟨A8, c9, rfl, _⟩ := hL7.slice
    refine l_step rfl (o_pure hE rfl rfl (p_assign rfl).run ?_); clear hE a; intro a hE
    refine wpList_nil ?_
    refine then_normal ?_
    refine wp_seq ?_
    refine wp_seq ?_
    refine wp_region_list ?_   -- region 7
    refine l_step rfl (o_pure hE rfl rfl (p_assign rfl).run ?_); clear hE a; intro a hE
    refine wpList_nil ?_
    refine then_normal ?_
    refine wp_block ?_
    have hml : makeR.length = 3 := rfl
    refine c_loop (X := Nat) (fun x => [(0, _), (3, _), (4, _), (5, .int .i64 (x : Nat))]) (fun x w => x ≤ 3 ∧ Inv w0 D5 ss w) (fun x => 3 - x) 0 (hE.pick [0, 3, 4, 5]) ⟨by omega, hI⟩ ?_
    clear hE hI a w
    rintro i a w hE ⟨hi, hI⟩
    try dsimp only at hE
    try dsimp only at hi
    try dsimp only at hI
    refine wp_seq ?_
    refine wp_seq ?_
    refine wp_region_list ?_   -- region 8
    refine l_step rfl (o_pure hE rfl rfl (p_move rfl).run ?_); clear hE a; intro a hE
    refine l_step rfl (o_pure hE rfl rfl (p_move rfl).run ?_); clear hE a; intro a hE
    refine l_step rfl (o_pure hE rfl rfl (p_len rfl rfl Tryd.underlying62).run ?_); clear hE a; intro a hE
    refine l_step rfl (o_cmp hE rfl rfl rfl rfl rfl rfl ?_ ?_)
    · intro hlt; replace hlt := lss_t hlt; clear hE a; intro a hE
      refine wpList_nil ?_
      refine then_normal ?_
      refine c_true hE rfl ?_
      refine wp_skip ?_
      refine then_normal ?_
      refine wp_seq ?_
      refine wp_block ?_
      refine wp_seq ?_
      refine wp_region_list ?_   -- region 10
      refine l_step rfl (o_pure hE rfl rfl (p_move rfl).run ?_); clear hE a; intro a hE
      refine l_step rfl (o_pure hE rfl rfl (p_move rfl).run ?_); clear hE a; intro a hE
      obtain ⟨x_10, hx_10⟩ : ∃ z9, (makeR)[i]? = some z9 := ⟨_, List.getElem?_eq_getElem (by omega)⟩
      obtain ⟨b_10, o_10, cs_10, T_10, fr_10, rfl, hb_10, hat_10⟩ := hL7.at_ (by intro h0; rw [h0] at hx_10; simp at hx_10)
      obtain ⟨vs_10, hl_10, ⟨k_10, v_10, rfl, hk_10, hv_10, hok_10⟩, hex_10, hsz_10, hce_10⟩ := hat_10.extract hx_10 (by omega)
      obtain ⟨A11, c12, rfl, _⟩ := hk_10.slice
      obtain ⟨A13, c14, rfl, _⟩ := hv_10.slice
      refine l_step rfl (o_pure hE rfl rfl (p_indexAddr (m := o_10 + i * 10) rfl rfl Tryd.underlying62 sz_88 (by omega) (by omega) (by simp)).run ?_); clear hE a; intro a hE
      obtain ⟨⟨hq0, hq1⟩, hq2, hq3, hq4, hq5, hq6⟩ := makeR_ok x_10 (List.mem_of_getElem? hx_10)
      refine l_step rfl (o_pure hE rfl rfl (p_fieldAddr rfl fo_88_4 rfl).run ?_); clear hE a; intro a hE
      refine l_step rfl (o_pure hE rfl rfl (r_load rfl scal_3 (hI.data _ _ (hb_10)) (hce_10 4 _ rfl)) ?_); clear hE a; intro a hE
      refine l_step rfl (o_pure hE rfl rfl (p_cmp rfl rfl (lss_n (by omega))).run ?_); clear hE a; intro a hE
      refine l_step rfl (o_pure hE rfl rfl (p_move rfl).run ?_); clear hE a; intro a hE
      refine l_go hE rfl (o_pure hE rfl rfl (p_move rfl).run ?_); clear hE a; intro a hE
      refine l_go hE rfl (o_pure hE rfl rfl (p_move rfl).run ?_); clear hE a; intro a hE
      refine l_go hE rfl (o_pure hE rfl rfl (p_indexAddr (m := o_10 + i * 10) rfl rfl Tryd.underlying62 sz_88 (by omega) (by omega) (by simp)).run ?_); clear hE a; intro a hE
      refine l_go hE rfl (o_pure hE rfl rfl (p_fieldAddr rfl fo_88_4 rfl).run ?_); clear hE a; intro a hE
      refine l_go hE rfl (o_pure hE rfl rfl (r_load rfl scal_3 (hI.data _ _ (hb_10)) (hce_10 4 _ rfl)) ?_); clear hE a; intro a hE
      refine l_go hE rfl (o_pure hE rfl rfl (p_cmp rfl rfl (gtr_n (by omega))).run ?_); clear hE a; intro a hE
      refine l_step rfl (o_pure hE rfl rfl (p_pick (b := false) rfl rfl).run ?_); clear hE a; intro a hE
      refine l_step rfl (o_pure hE rfl rfl (p_move rfl).run ?_); clear hE a; intro a hE
      refine l_go hE rfl (o_pure hE rfl rfl (p_move rfl).run ?_); clear hE a; intro a hE
      refine l_go hE rfl (o_pure hE rfl rfl (p_move rfl).run ?_); clear hE a; intro a hE
      refine l_go hE rfl (o_pure hE rfl rfl (p_indexAddr (m := o_10 + i * 10) rfl rfl Tryd.underlying62 sz_88 (by omega) (by omega) (by simp)).run ?_); clear hE a; intro a hE
      refine l_go hE rfl (o_pure hE rfl rfl (p_fieldAddr rfl fo_88_0 rfl).run ?_); clear hE a; intro a hE
      refine l_go hE rfl (o_pure hE rfl rfl (r_load rfl scal_2 (hI.data _ _ (hb_10)) (hce_10 0 _ rfl)) ?_); clear hE a; intro a hE
      refine l_go hE rfl (o_pure hE rfl rfl (p_cmp rfl rfl (neq_n (by omega))).run ?_); clear hE a; intro a hE
      refine l_step rfl (o_pure hE rfl rfl (p_pick (b := false) rfl rfl).run ?_); clear hE a; intro a hE
      refine l_step rfl (o_pure hE rfl rfl (p_move rfl).run ?_); clear hE a; intro a hE
      refine l_go hE rfl (o_pure hE rfl rfl (p_move rfl).run ?_); clear hE a; intro a hE
      refine l_go hE rfl (o_pure hE rfl rfl (p_move rfl).run ?_); clear hE a; intro a hE
      refine l_go hE rfl (o_pure hE rfl rfl (p_indexAddr (m := o_10 + i * 10) rfl rfl Tryd.underlying62 sz_88 (by omega) (by omega) (by simp)).run ?_); clear hE a; intro a hE
      refine l_go hE rfl (o_pure hE rfl rfl (p_fieldAddr rfl fo_88_1 rfl).run ?_); clear hE a; intro a hE
      refine l_go hE rfl (o_pure hE rfl rfl (r_load rfl scal_2 (hI.data _ _ (hb_10)) (hce_10 1 _ rfl)) ?_); clear hE a; intro a hE
      refine l_go hE rfl (o_pure hE rfl rfl (p_cmp rfl rfl (neq_n (by omega))).run ?_); clear hE a; intro a hE
      refine l_step rfl (o_pure hE rfl rfl (p_pick (b := false) rfl rfl).run ?_); clear hE a; intro a hE
      refine l_step rfl (o_pure hE rfl rfl (p_move rfl).run ?_); clear hE a; intro a hE
      refine l_go hE rfl (o_pure hE rfl rfl (p_move rfl).run ?_); clear hE a; intro a hE
      refine l_go hE rfl (o_pure hE rfl rfl (p_move rfl).run ?_); clear hE a; intro a hE
      refine l_go hE rfl (o_pure hE rfl rfl (p_indexAddr (m := o_10 + i * 10) rfl rfl Tryd.underlying62 sz_88 (by omega) (by omega) (by simp)).run ?_); clear hE a; intro a hE
      refine l_go hE rfl (o_pure hE rfl rfl (p_fieldAddr rfl fo_88_2 rfl).run ?_); clear hE a; intro a hE
      refine l_go hE rfl (o_pure hE rfl rfl (r_load rfl scal_3 (hI.data _ _ (hb_10)) (hce_10 2 _ rfl)) ?_); clear hE a; intro a hE
      refine l_go hE rfl (o_pure hE rfl rfl (p_cmp rfl rfl (neq_n (by omega))).run ?_); clear hE a; intro a hE
      refine l_step rfl (o_pure hE rfl rfl (p_pick (b := false) rfl rfl).run ?_); clear hE a; intro a hE
      refine l_step rfl (o_pure hE rfl rfl (p_move rfl).run ?_); clear hE a; intro a hE
      refine l_go hE rfl (o_pure hE rfl rfl (p_move rfl).run ?_); clear hE a; intro a hE
      refine l_go hE rfl (o_pure hE rfl rfl (p_move rfl).run ?_); clear hE a; intro a hE
      refine l_go hE rfl (o_pure hE rfl rfl (p_indexAddr (m := o_10 + i * 10) rfl rfl Tryd.underlying62 sz_88 (by omega) (by omega) (by simp)).run ?_); clear hE a; intro a hE
      refine l_go hE rfl (o_pure hE rfl rfl (p_fieldAddr rfl fo_88_3 rfl).run ?_); clear hE a; intro a hE
      refine l_go hE rfl (o_pure hE rfl rfl (r_load rfl scal_3 (hI.data _ _ (hb_10)) (hce_10 3 _ rfl)) ?_); clear hE a; intro a hE
      refine l_go hE rfl (o_pure hE rfl rfl (p_cmp rfl rfl (neq_n (by omega))).run ?_); clear hE a; intro a hE
      refine l_step rfl (o_pure hE rfl rfl (p_pick (b := false) rfl rfl).run ?_); clear hE a; intro a hE
      refine l_step rfl (o_pure hE rfl rfl (p_move rfl).run ?_); clear hE a; intro a hE
      refine l_go hE rfl (o_pure hE rfl rfl (p_move rfl).run ?_); clear hE a; intro a hE
      refine l_go hE rfl (o_pure hE rfl rfl (p_move rfl).run ?_); clear hE a; intro a hE
      refine l_go hE rfl (o_pure hE rfl rfl (p_indexAddr (m := o_10 + i * 10) rfl rfl Tryd.underlying62 sz_88 (by omega) (by omega) (by simp)).run ?_); clear hE a; intro a hE
      refine l_go hE rfl (o_pure hE rfl rfl (p_fieldAddr rfl fo_88_9 rfl).run ?_); clear hE a; intro a hE
      refine l_go hE rfl (o_pure hE rfl rfl (r_load rfl scal_4 (hI.data _ _ (hb_10)) (hce_10 9 _ rfl)) ?_); clear hE a; intro a hE
      rw [hq6] at hE
      refine l_step rfl (o_pure hE rfl rfl (p_pick (b := false) rfl rfl).run ?_); clear hE a; intro a hE
      refine wpList_nil ?_
      refine then_normal ?_
      refine c_false hE rfl ?_
      refine wp_skip ?_
      refine blk_normal ?_
      refine then_normal ?_
      refine wp_region_list ?_   -- region 9
      refine l_step rfl (o_pure hE rfl rfl (p_move rfl).run ?_); clear hE a; intro a hE
      refine l_step rfl (o_pure hE rfl rfl (p_arith (z := ((i + 1 : Nat) : Int)) rfl rfl (add_z (by omega) (by omega) (by omega))).run ?_); clear hE a; intro a hE
      refine l_step rfl (o_pure hE rfl rfl (p_assign rfl).run ?_); clear hE a; intro a hE
      refine wpList_nil ?_
      refine then_normal ?_
      exact ⟨i + 1, hE.pick [0, 3, 4, 5], ⟨by show i + 1 ≤ 3; omega, hI⟩, by show 3 - (i + 1) < 3 - i; omega⟩
    · intro hlt; replace hlt := lss_f hlt; clear hE a; intro a hE
      refine wpList_nil ?_
      refine then_normal ?_
      refine c_false hE rfl ?_
      refine wp_exit ?_
      refine then_exit ?_
      refine then_exit ?_
      refine blk_same ?_
      refine then_normal ?_
      refine wp_seq ?_
      refine wp_region_list ?_   -- region 12
      refine l_step rfl (o_call hE rfl rfl rfl rfl ent_32 (empty_spec hI (hS.mono (hD4.trans hD6))) ?_)
      clear hI hE a
      rintro r w ⟨D15, s16, q17, hD18, rfl, hP19, hI⟩ a hE
      refine l_step rfl (o_pure hE rfl rfl (p_move rfl).run ?_); clear hE a; intro a hE
      refine l_step rfl (o_pure hE rfl rfl (f_extract rfl rfl).run ?_); clear hE a; intro a hE
      refine l_step rfl (o_pure hE rfl rfl (f_extract rfl rfl).run ?_); clear hE a; intro a hE
      refine l_step rfl (o_pure hE rfl rfl (p_assign rfl).run ?_); clear hE a; intro a hE
      refine l_step rfl (o_pure hE rfl rfl (p_assign rfl).run ?_); clear hE a; intro a hE
      refine wpList_nil ?_
      refine then_normal ?_
      refine wp_seq ?_
      refine wp_region_list ?_   -- region 13
      refine l_step rfl (o_pure hE rfl rfl (p_move rfl).run ?_); clear hE a; intro a hE
      refine l_step rfl (o_call hE rfl rfl rfl rfl ent_45 (Check0_spec hI hP19 (hS.mono ((hD4.trans hD6).trans hD18)) E0_f0 rfl rfl rfl E0_f1 rfl) ?_)
      clear hI hE a
      rintro r w ⟨rfl, D20, s21, hD22, hP23, hI⟩ a hE
      refine l_step rfl (o_pure hE rfl rfl (p_move rfl).run ?_); clear hE a; intro a hE
      refine l_step rfl (o_pure hE rfl rfl (f_extract rfl rfl).run ?_); clear hE a; intro a hE
      refine l_step rfl (o_pure hE rfl rfl (f_extract rfl rfl).run ?_); clear hE a; intro a hE
      refine l_step rfl (o_pure hE rfl rfl (p_assign rfl).run ?_); clear hE a; intro a hE
      refine l_step rfl (o_pure hE rfl rfl (p_assign rfl).run ?_); clear hE a; intro a hE
      refine wpList_nil ?_
      refine then_normal ?_
      refine wp_seq ?_
      refine wp_region_list ?_   -- region 14
      refine l_step rfl (o_pure hE rfl rfl (p_move rfl).run ?_); clear hE a; intro a hE
      refine l_step rfl (o_call hE rfl rfl rfl rfl ent_33 (New_spec hI E0 (some ⟨q17, 0, none⟩)) ?_)
      clear hI hE a
      rintro r w ⟨sb24, hB25, hI⟩ a hE
      obtain ⟨bb26, hvb⟩ := BatchS.ptr hB25
      subst hvb
      refine l_step rfl (o_pure hE rfl rfl (p_assign rfl).run ?_); clear hE a; intro a hE
      refine wpList_nil ?_
      refine then_normal ?_
      refine wp_seq ?_
      refine wp_region_list ?_   -- region 15
      refine l_step rfl (o_pure hE rfl rfl (p_move rfl).run ?_); clear hE a; intro a hE
      replace hI := hI.bring 1
      replace hI := hI.bring 1
      replace hI := hI.merge
      have hT27 := TreeS.join hB25 hP23 rfl
      refine l_step rfl (o_call hE rfl rfl rfl rfl ent_49 (Next_spec (key := []) hI (hS.mono (((hD4.trans hD6).trans hD18).trans hD22)) hT27 (RB.nil _)) ?_)
      clear hI hE a
      rintro r w h a hE; rcases h with ⟨res28, hx29, D30, k31, v32, hD33, rfl, hk34, hv35, hT36, hI⟩ | ⟨c37, o38, hbad, rfl, D39, s40, hD41, hT42, hI⟩
      · skip
        rw [E0_next] at hx29
        injection hx29 with hx29
        subst hx29
        obtain ⟨A43, c44, rfl, _⟩ := hk34.slice
        obtain ⟨A45, c46, rfl, _⟩ := hv35.slice
        obtain ⟨sb47, sp48, hs49, hB50, hP51, _⟩ := hT36
        rw [hs49] at hI
        replace hI := hI.part
        refine l_step rfl (o_pure hE rfl rfl (p_move rfl).run ?_); clear hE a; intro a hE
        refine l_step rfl (o_pure hE rfl rfl (f_extract rfl rfl).run ?_); clear hE a; intro a hE
        refine l_step rfl (o_pure hE rfl rfl (f_extract rfl rfl).run ?_); clear hE a; intro a hE
        refine l_step rfl (o_pure hE rfl rfl (f_extract rfl rfl).run ?_); clear hE a; intro a hE
        refine l_step rfl (f_alloc (cs := #[.slice none 0 0, .slice none 0 0]) hE hI rfl rfl rfl zer_69 rfl ?_)
        clear hI hE a w; intro a b52 w hE hI
        refine l_step rfl (f_store (l := [_, _]) (ss' := _ :: _) 0 hE hI rfl rfl rfl rfl rfl sz_69 (by simp [Value.cells, Value.oneCell', pgCells, rcCells, zPg]) rfl rfl rfl ?_)
        clear hI w; intro w hI
        refine l_step rfl (o_pure hE rfl rfl (p_assign rfl).run ?_); clear hE a; intro a hE
        refine l_step rfl (o_pure hE rfl rfl (p_assign rfl).run ?_); clear hE a; intro a hE
        refine wpList_nil ?_
        refine then_normal ?_
        refine wp_seq ?_
        refine wp_region_list ?_   -- region 16
        refine l_step rfl (o_pure hE rfl rfl (p_move rfl).run ?_); clear hE a; intro a hE
        refine l_step rfl (o_call hE rfl rfl rfl rfl ent_46 (Get_spec (hI.bring 2) hP51 0 (by omega) (by omega)) ?_)
        clear hI hE a
        rintro r w h a hE; rcases h with ⟨p53, hp54, D55, e56, hD57, rfl, he58, ho59, hI, hP60⟩ | ⟨hbad, s61, rfl, hP60, hI⟩
        · skip
          replace hI := hI.put_back 2
          try simp only [splice, insAt, List.set_cons_succ, List.set_cons_zero, List.setIfInBounds_toArray, Value.cells, List.eraseIdx_cons_succ, List.eraseIdx_cons_zero, List.eraseIdx_zero, List.tail_cons] at hI
          rw [E0_f0] at hp54
          injection hp54 with hp54
          subst hp54
          have hyl_hp54 : (⟨0, 1, 0, -1, []⟩ : Pg).ents.length = 0 := rfl
          obtain ⟨A62, c63, rfl, _⟩ := he58.slice
          refine l_step rfl (o_pure hE rfl rfl (p_move rfl).run ?_); clear hE a; intro a hE
          refine l_step rfl (o_pure hE rfl rfl (f_extract rfl rfl).run ?_); clear hE a; intro a hE
          refine l_step rfl (o_pure hE rfl rfl (f_extract rfl rfl).run ?_); clear hE a; intro a hE
          refine l_step rfl (f_alloc (cs := #[.int .i64 0, .int .i64 0, .int .i64 0, .int .i64 0, .slice none 0 0]) hE hI rfl rfl rfl zer_83 rfl ?_)
          clear hI hE a w; intro a b64 w hE hI
          refine l_step rfl (f_store (l := [_, _, _, _, _]) (ss' := _ :: _) 0 hE hI rfl rfl rfl rfl rfl sz_83 (by simp [Value.cells, Value.oneCell', pgCells, rcCells, zPg]) rfl rfl rfl ?_)
          clear hI w; intro w hI
          refine l_step rfl (o_pure hE rfl rfl (p_assign rfl).run ?_); clear hE a; intro a hE
          refine wpList_nil ?_
          refine then_normal ?_
          refine wp_seq ?_
          refine wp_region_list ?_   -- region 17
          refine l_step rfl (o_pure hE rfl rfl (p_move rfl).run ?_); clear hE a; intro a hE
          refine l_step rfl (o_call hE rfl rfl rfl rfl ent_46 (Get_spec (hI.bring 3) hP60 1 (by omega) (by omega)) ?_)
          clear hI hE a
          rintro r w h a hE; rcases h with ⟨p65, hp66, D67, e68, hD69, rfl, he70, ho71, hI, hP72⟩ | ⟨hbad, s73, rfl, hP72, hI⟩
          · skip
            replace hI := hI.put_back 3
            try simp only [splice, insAt, List.set_cons_succ, List.set_cons_zero, List.setIfInBounds_toArray, Value.cells, List.eraseIdx_cons_succ, List.eraseIdx_cons_zero, List.eraseIdx_zero, List.tail_cons] at hI
            rw [E0_f1] at hp66
            injection hp66 with hp66
            subst hp66
            have hyl_hp66 : (⟨1, 3, 0, -1, [([110], [0, 2, 0, 0])]⟩ : Pg).ents.length = 1 := rfl
            obtain ⟨A74, c75, rfl, _⟩ := he70.slice
            refine l_step rfl (o_pure hE rfl rfl (p_move rfl).run ?_); clear hE a; intro a hE
            refine l_step rfl (o_pure hE rfl rfl (f_extract rfl rfl).run ?_); clear hE a; intro a hE
            refine l_step rfl (o_pure hE rfl rfl (f_extract rfl rfl).run ?_); clear hE a; intro a hE
            refine l_step rfl (f_alloc (cs := #[.int .i64 0, .int .i64 0, .int .i64 0, .int .i64 0, .slice none 0 0]) hE hI rfl rfl rfl zer_83 rfl ?_)
            clear hI hE a w; intro a b76 w hE hI
            refine l_step rfl (f_store (l := [_, _, _, _, _]) (ss' := _ :: _) 0 hE hI rfl rfl rfl rfl rfl sz_83 (by simp [Value.cells, Value.oneCell', pgCells, rcCells, zPg]) rfl rfl rfl ?_)
            clear hI w; intro w hI
            refine l_step rfl (o_pure hE rfl rfl (p_assign rfl).run ?_); clear hE a; intro a hE
            refine wpList_nil ?_
            refine then_normal ?_
            refine wp_seq ?_
            refine wp_region_list ?_   -- region 18
            refine l_step rfl (o_pure hE rfl rfl (p_move rfl).run ?_); clear hE a; intro a hE
            refine l_step rfl (o_pure hE rfl rfl (p_ifaceNil Tryd.underlying25 rfl rfl rfl).run ?_); clear hE a; intro a hE
            refine l_step rfl (o_pure hE rfl rfl (p_move rfl).run ?_); clear hE a; intro a hE
            refine l_go hE rfl (o_pure hE rfl rfl (p_move rfl).run ?_); clear hE a; intro a hE
            refine l_go hE rfl (o_pure hE rfl rfl (p_cmp rfl rfl (eql_y (rfl))).run ?_); clear hE a; intro a hE
            refine l_step rfl (o_pure hE rfl rfl (p_pick (b := true) rfl rfl).run ?_); clear hE a; intro a hE
            refine l_step rfl (o_pure hE rfl rfl (p_move rfl).run ?_); clear hE a; intro a hE
            refine l_go hE rfl (o_pure hE rfl rfl (p_move rfl).run ?_); clear hE a; intro a hE
            refine l_go hE rfl (o_pure hE rfl rfl (p_not rfl).run ?_); clear hE a; intro a hE
            refine l_step rfl (o_pure hE rfl rfl (p_pick (b := true) rfl rfl).run ?_); clear hE a; intro a hE
            refine l_step rfl (o_pure hE rfl rfl (p_move rfl).run ?_); clear hE a; intro a hE
            refine l_go hE rfl (o_pure hE rfl rfl (p_move rfl).run ?_); clear hE a; intro a hE
            refine l_go hE rfl (o_pure hE rfl rfl (p_ifaceNil Tryd.underlying25 rfl rfl rfl).run ?_); clear hE a; intro a hE
            refine l_step rfl (o_pure hE rfl rfl (p_pick (b := true) rfl rfl).run ?_); clear hE a; intro a hE
            refine l_step rfl (o_pure hE rfl rfl (p_move rfl).run ?_); clear hE a; intro a hE
            refine l_go hE rfl (o_pure hE rfl rfl (p_move rfl).run ?_); clear hE a; intro a hE
            refine l_step rfl (o_pure hE rfl rfl (p_pick (b := true) rfl rfl).run ?_); clear hE a; intro a hE
            refine l_step rfl (o_pure hE rfl rfl (p_move rfl).run ?_); clear hE a; intro a hE
            refine l_go hE rfl (o_pure hE rfl rfl (p_move rfl).run ?_); clear hE a; intro a hE
            refine l_step rfl (o_pure hE rfl rfl (p_pick (b := true) rfl rfl).run ?_); clear hE a; intro a hE
            refine l_step rfl (o_pure hE rfl rfl (p_move rfl).run ?_); clear hE a; intro a hE
            refine l_go hE rfl (o_pure hE rfl rfl (p_fieldAddr (m := 2) rfl fo_83_2 rfl).run ?_); clear hE a; intro a hE
            refine l_go hE rfl (o_pure hE rfl rfl (f_load rfl scal_3 (hI.seg 1 rfl) rfl) ?_); clear hE a; intro a hE
            refine l_go hE rfl (o_pure hE rfl rfl (p_cmp rfl rfl (eql_y (rfl))).run ?_); clear hE a; intro a hE
            refine l_step rfl (o_pure hE rfl rfl (p_pick (b := true) rfl rfl).run ?_); clear hE a; intro a hE
            refine l_step rfl (o_pure hE rfl rfl (p_move rfl).run ?_); clear hE a; intro a hE
            refine l_go hE rfl (o_pure hE rfl rfl (p_fieldAddr (m := 3) rfl fo_83_3 rfl).run ?_); clear hE a; intro a hE
            refine l_go hE rfl (o_pure hE rfl rfl (f_load rfl scal_3 (hI.seg 1 rfl) rfl) ?_); clear hE a; intro a hE
            refine l_go hE rfl (o_pure hE rfl rfl (p_cmp rfl rfl (eql_y (rfl))).run ?_); clear hE a; intro a hE
            refine l_step rfl (o_pure hE rfl rfl (p_pick (b := true) rfl rfl).run ?_); clear hE a; intro a hE
            refine l_step rfl (o_pure hE rfl rfl (p_move rfl).run ?_); clear hE a; intro a hE
            refine l_go hE rfl (o_pure hE rfl rfl (p_fieldAddr (m := 4) rfl fo_83_4 rfl).run ?_); clear hE a; intro a hE
            refine l_go hE rfl (o_pure hE rfl rfl (f_load rfl scal_65 (hI.seg 1 rfl) rfl) ?_); clear hE a; intro a hE
            refine l_go hE rfl (o_pure hE rfl rfl (p_len rfl rfl Tryd.underlying65).run ?_); clear hE a; intro a hE
            refine l_go hE rfl (o_pure hE rfl rfl (p_cmp rfl rfl (eql_y (rfl))).run ?_); clear hE a; intro a hE
            refine l_step rfl (o_pure hE rfl rfl (p_pick (b := true) rfl rfl).run ?_); clear hE a; intro a hE
            refine l_step rfl (o_pure hE rfl rfl (p_move rfl).run ?_); clear hE a; intro a hE
            refine l_go hE rfl (o_pure hE rfl rfl (p_fieldAddr (m := 4) rfl fo_83_4 rfl).run ?_); clear hE a; intro a hE
            refine l_go hE rfl (o_pure hE rfl rfl (f_load rfl scal_65 (hI.seg 0 rfl) rfl) ?_); clear hE a; intro a hE
            refine l_go hE rfl (o_pure hE rfl rfl (p_len rfl rfl Tryd.underlying65).run ?_); clear hE a; intro a hE
            refine l_go hE rfl (o_pure hE rfl rfl (p_cmp rfl rfl (eql_y (rfl))).run ?_); clear hE a; intro a hE
            refine l_step rfl (o_pure hE rfl rfl (p_pick (b := true) rfl rfl).run ?_); clear hE a; intro a hE
            refine l_step rfl (o_pure hE rfl rfl (p_move rfl).run ?_); clear hE a; intro a hE
            refine l_go hE rfl (o_pure hE rfl rfl (p_fieldAddr (m := 4) rfl fo_83_4 rfl).run ?_); clear hE a; intro a hE
            refine l_go hE rfl (o_pure hE rfl rfl (f_load rfl scal_65 (hI.seg 0 rfl) rfl) ?_); clear hE a; intro a hE
            obtain ⟨x_77, hx_77⟩ : ∃ z9, ((⟨1, 3, 0, -1, [([110], [0, 2, 0, 0])]⟩ : Pg).ents)[0]? = some z9 := ⟨_, List.getElem?_eq_getElem (by omega)⟩
            obtain ⟨b_77, o_77, cs_77, T_77, fr_77, rfl, hb_77, hat_77⟩ := he70.at_ (by intro h0; rw [h0] at hx_77; simp at hx_77)
            obtain ⟨vs_77, hl_77, ⟨k_77, v_77, rfl, hk_77, hv_77, hok_77⟩, hex_77, hsz_77, hce_77⟩ := hat_77.extract hx_77 (by omega)
            obtain ⟨A78, c79, rfl, _⟩ := hk_77.slice
            obtain ⟨A80, c81, rfl, _⟩ := hv_77.slice
            refine l_go hE rfl (o_pure hE rfl rfl (p_indexAddr (m := o_77 + 0 * 2) rfl rfl Tryd.underlying65 sz_69 (by omega) (by show (0 : Int) < ((1 : Nat) : Int); omega) (by simp)).run ?_); clear hE a; intro a hE
            refine l_go hE rfl (o_pure hE rfl rfl (p_fieldAddr rfl fo_69_1 rfl).run ?_); clear hE a; intro a hE
            refine l_go hE rfl (o_pure hE rfl rfl (r_load rfl scal_22 (hI.data _ _ (hb_77)) (hce_77 1 _ rfl)) ?_); clear hE a; intro a hE
            refine l_go hE rfl (f_lit (vs := [(0, _), (1, _), (2, _), (3, _)]) (l := [_, _, _, _]) hE hI rfl rfl rfl rfl Tryd.underlying22 zs_5 rfl rfl rfl ?_)
            clear hI hE a w; intro a b82 w hE hI
            obtain ⟨D83, hD84, hIa, hb85⟩ := lit_data [0, 2, 0, 0] 0 hI rfl (by simp)
            replace hI := hIa
            clear hIa
            try simp only [splice, insAt, List.set_cons_succ, List.set_cons_zero, List.setIfInBounds_toArray, Value.cells, List.eraseIdx_cons_succ, List.eraseIdx_cons_zero, List.eraseIdx_zero, List.tail_cons] at hI
            have he1 : x_77.2 = [0, 2, 0, 0] := by simp at hx_77; rw [← hx_77]
            refine l_go hE rfl (o_call hE rfl rfl rfl rfl ent_18 (SameBytes_spec (ka := [0, 2, 0, 0]) (kb := [0, 2, 0, 0]) hI (he1 ▸ (hv_77.mono hD84)) hb85 (by show (4 : Nat) ≤ _; omega)) ?_)
            clear hI hE a
            rintro r w h a hE; rcases h with ⟨rfl, hx, hI⟩ | ⟨rfl, hx, hI⟩
            · skip
              refine l_step rfl (o_pure hE rfl rfl (p_pick (b := true) rfl rfl).run ?_); clear hE a; intro a hE
              refine l_step rfl (o_pure hE rfl rfl (p_move rfl).run ?_); clear hE a; intro a hE
              refine l_go hE rfl (o_pure hE rfl rfl (p_move rfl).run ?_); clear hE a; intro a hE
              refine l_go hE rfl (o_pure hE rfl rfl (p_move rfl).run ?_); clear hE a; intro a hE
              replace hI := hI.bring 4
              replace hI := hI.bring 4
              replace hI := hI.merge
              have hT86 := TreeS.join (hB50.mono ((hD57.trans hD69).trans hD84)) (hP72.mono hD84) rfl
              refine l_go hE rfl (o_call hE rfl rfl rfl rfl ent_50 (tells0_spec hI (hS.mono (((((((hD4.trans hD6).trans hD18).trans hD22).trans hD33).trans hD57).trans hD69).trans hD84)) hT86 (hk.mono (((((((hD4.trans hD6).trans hD18).trans hD22).trans hD33).trans hD57).trans hD69).trans hD84)) (E0_get key)) ?_)
              clear hI hE a
              rintro r w ⟨rfl, D87, s88, hD89, hT90, hI⟩ a hE
              obtain ⟨sb91, sp92, hs93, hB94, hP95, _⟩ := hT90
              rw [hs93] at hI
              replace hI := hI.part
              refine l_step rfl (o_pure hE rfl rfl (p_pick (b := true) rfl rfl).run ?_); clear hE a; intro a hE
              refine l_step rfl (o_pure hE rfl rfl (p_move rfl).run ?_); clear hE a; intro a hE
              refine l_go hE rfl (o_pure hE rfl rfl (p_move rfl).run ?_); clear hE a; intro a hE
              refine l_go hE rfl (o_call hE rfl rfl rfl rfl ent_51 (Len_spec (hI.bring 1) hP95) ?_)
              clear hI hE a
              rintro r w ⟨rfl, hI⟩ a hE
              rw [E0_n] at hE
              replace hI := hI.put_back 1
              try simp only [splice, insAt, List.set_cons_succ, List.set_cons_zero, List.setIfInBounds_toArray, Value.cells, List.eraseIdx_cons_succ, List.eraseIdx_cons_zero, List.eraseIdx_zero, List.tail_cons] at hI
              refine l_go hE rfl (o_pure hE rfl rfl (p_cmp rfl rfl (eql_y (rfl))).run ?_); clear hE a; intro a hE
              refine l_step rfl (o_pure hE rfl rfl (p_pick (b := true) rfl rfl).run ?_); clear hE a; intro a hE
              refine l_step rfl (o_pure hE rfl rfl (p_assign rfl).run ?_); clear hE a; intro a hE
              refine wpList_nil ?_
              refine then_normal ?_
              refine wp_ret ?_
              refine ret1 rfl hE rfl ?_
              exact ⟨_, ((((((((hD4.trans hD6).trans hD18).trans hD22).trans hD33).trans hD57).trans hD69).trans hD84).trans hD89), hI.drop.drop.drop.drop.drop, rfl⟩
            · skip
              exfalso
              exact hx rfl
          · skip
            exfalso
            rw [E0_f1] at hbad; cases hbad
        · skip
          exfalso
          rw [E0_f0] at hbad; cases hbad
      · skip
        exfalso
        rw [E0_next] at hbad; cases hbad
end Go.Proofs.YtbogbnkckofpdaaDoor.B
